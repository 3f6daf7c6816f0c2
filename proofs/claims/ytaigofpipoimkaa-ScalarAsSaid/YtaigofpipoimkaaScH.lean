/-
  Package scalar: the examples of the chapter; the property ScalarReads.
-/
import Derived.Test.YtaigofpipoimkaaScG
import Derived.Test.YtaigofpipoimkaaRefRow
import Derived.Test.YtaigofpipoimkaaCut
namespace Go.Proofs.Ytaigofpipoimkaa
open Go.RowKit Go.Acc
set_option maxHeartbeats 400000 in
theorem of22_spec (p q t v : Int) (w : World) : Calls Try.prog 24 #[.int .i64 p, .int .i64 q, .int .i64 t, .int .i64 v] w fun e w' => e = .returned (.agg #[.int .i64 p, .int .i64 q, .int .i64 t, .int .i64 v]) ∧ Below w.heap.size w w' := by
  go_enter Try.func24, Try.ntmps24
  go_wp2
  refine bodyPost_ret (v := .agg #[.int .i64 p, .int .i64 q, .int .i64 t, .int .i64 v]) (by simp [results, Try.results24, go_sem]) rfl ⟨rfl, ?_⟩
  exact (Below.refl _ _).alloc (Nat.le_refl _) _
set_option maxHeartbeats 400000 in
theorem ints_yes (A : Option Addr) (n c : Nat) (p q t v : Int) (l : List UInt8) (x er : Int) (w : World) (h : IsB w A n l) (hc : n ≤ c) (hn : n ≤ 9223372036854775807) (h1 : intV l p q t v = x) (h2 : intE l p q t v = er) :
    Calls Try.prog 76 #[.slice A n c, .agg #[.int .i64 p, .int .i64 q, .int .i64 t, .int .i64 v], .int .i64 x, .int .i64 er] w fun e w' => e = .returned (.bool true) ∧ Below w.heap.size w w' := by
  have HL := Lib.hid (h.alloc (.cells #[.int .i64 p, .int .i64 q, .int .i64 t, .int .i64 v] 23))
  have HB := Lib.hid ((Below.refl w.heap.size w).alloc (Nat.le_refl _) (.cells #[.int .i64 p, .int .i64 q, .int .i64 t, .int .i64 v] 23))
  have H1 := Lib.hid h1
  have H2 := Lib.hid h2
  clear h h1 h2
  go_enter Try.func76, Try.ntmps76
  go_wp2_with fail
  go_at_call 25
  refine (sint_spec A n c p q t v l _ HL.out hc hn).mono ?_
  rw [H1.out, H2.out]
  rintro e w1 ⟨rfl, hb⟩
  have HB := Lib.hid (pure_below HB.out hb)
  clear hb
  go_wp2
  go_ret
  exact ⟨rfl, HB.out⟩
set_option maxHeartbeats 400000 in
theorem uints_yes (A : Option Addr) (n c : Nat) (p q t v : Int) (l : List UInt8) (x er : Int) (w : World) (h : IsB w A n l) (hc : n ≤ c) (hn : n ≤ 9223372036854775807) (h1 : (uintV l p q t v : Int) = x) (h2 : uintE l p q t v = er) :
    Calls Try.prog 77 #[.slice A n c, .agg #[.int .i64 p, .int .i64 q, .int .i64 t, .int .i64 v], .int .u64 x, .int .i64 er] w fun e w' => e = .returned (.bool true) ∧ Below w.heap.size w w' := by
  have HL := Lib.hid (h.alloc (.cells #[.int .i64 p, .int .i64 q, .int .i64 t, .int .i64 v] 23))
  have HB := Lib.hid ((Below.refl w.heap.size w).alloc (Nat.le_refl _) (.cells #[.int .i64 p, .int .i64 q, .int .i64 t, .int .i64 v] 23))
  have H1 := Lib.hid h1
  have H2 := Lib.hid h2
  clear h h1 h2
  go_enter Try.func77, Try.ntmps77
  go_wp2_with fail
  go_at_call 26
  refine (suint_spec A n c p q t v l _ HL.out hc hn).mono ?_
  rw [H1.out, H2.out]
  rintro e w1 ⟨rfl, hb⟩
  have HB := Lib.hid (pure_below HB.out hb)
  clear hb
  go_wp2
  go_ret
  exact ⟨rfl, HB.out⟩
theorem bool_is (A : Option Addr) (n c : Nat) (p q t v : Int) (l : List UInt8) (b : Bool) (er : Int) (w : World) (h : IsB w A n l) (hc : n ≤ c) (hn : n ≤ 9223372036854775807) (h1 : boolV l p q t v = b) (h2 : plcE l p q t v = er) :
    Calls Try.prog 75 #[.slice A n c, .agg #[.int .i64 p, .int .i64 q, .int .i64 t, .int .i64 v]] w fun e w' => e = .returned (.tuple #[.bool b, .int .i64 er]) ∧ Below w.heap.size w w' := by
  subst h1 h2
  exact sbool_spec A n c p q t v l w h hc hn
theorem plc_is (A : Option Addr) (n c : Nat) (p q t v : Int) (l : List UInt8) (a x er : Int) (w : World) (h : IsB w A n l) (hc : n ≤ c) (hn : n ≤ 9223372036854775807) (h0 : plcA l p q t v = a) (h1 : plcW l p q t v = x) (h2 : plcE l p q t v = er) :
    Calls Try.prog 78 #[.slice A n c, .agg #[.int .i64 p, .int .i64 q, .int .i64 t, .int .i64 v]] w fun e w' => e = .returned (.tuple #[.int .i64 a, .int .i64 x, .int .i64 er]) ∧ Below w.heap.size w w' := by
  subst h0 h1 h2
  exact splace_spec A n c p q t v l w h hc hn
set_option maxRecDepth 100000 in
set_option maxHeartbeats 4000000 in
theorem scworks_spec (w : World) : Calls Try.prog 27 #[] w fun e w' => e = .returned (.bool true) ∧ Below w.heap.size w w' := by
  have HX := Lib.hid (isb_lit w #[.int .u8 254, .int .u8 4, .int .u8 1] [254, 4, 1] 3 rfl rfl)
  have HB := Lib.hid ((Below.refl w.heap.size w).alloc (Nat.le_refl _) (.cells #[.int .u8 254, .int .u8 4, .int .u8 1] 5))
  go_enter Try.func27, Try.ntmps27
  go_wp2_with fail
  go_at_call 24
  refine (of22_spec 0 1 1 1 _).mono ?_
  rintro e wn ⟨rfl, hb⟩
  replace HB := Lib.hid (pure_below HB.out hb)
  replace HX := Lib.hid (HX.out.pure hb)
  clear hb
  go_wp2_with fail
  go_at_call 75
  refine (bool_is _ 3 3 0 1 1 1 [254, 4, 1] true 0 _ HX.out (by decide) (by decide) (by decide) (by decide)).mono ?_
  rintro e wn ⟨rfl, hb⟩
  replace HB := Lib.hid (pure_below HB.out hb)
  replace HX := Lib.hid (HX.out.pure hb)
  clear hb
  go_wp2_with fail
  go_at_call 24
  refine (of22_spec 0 1 1 1 _).mono ?_
  rintro e wn ⟨rfl, hb⟩
  replace HB := Lib.hid (pure_below HB.out hb)
  replace HX := Lib.hid (HX.out.pure hb)
  clear hb
  go_wp2_with fail
  go_at_call 76
  refine (ints_yes _ 3 3 0 1 1 1 [254, 4, 1] (-2) 0 _ HX.out (by decide) (by decide) (by decide) (by decide)).mono ?_
  rintro e wn ⟨rfl, hb⟩
  replace HB := Lib.hid (pure_below HB.out hb)
  replace HX := Lib.hid (HX.out.pure hb)
  clear hb
  go_wp2_with fail
  go_at_call 24
  refine (of22_spec 0 1 1 1 _).mono ?_
  rintro e wn ⟨rfl, hb⟩
  replace HB := Lib.hid (pure_below HB.out hb)
  replace HX := Lib.hid (HX.out.pure hb)
  clear hb
  go_wp2_with fail
  go_at_call 77
  refine (uints_yes _ 3 3 0 1 1 1 [254, 4, 1] 0 10 _ HX.out (by decide) (by decide) (by decide) (by decide)).mono ?_
  rintro e wn ⟨rfl, hb⟩
  replace HB := Lib.hid (pure_below HB.out hb)
  replace HX := Lib.hid (HX.out.pure hb)
  clear hb
  go_wp2_with fail
  replace HX : Hid (IsB (wn.alloc (.cells #[.int .u8 254, .int .u8 8, .int .u8 1] 5)) (some ⟨wn.heap.size, 0, none⟩) 3 [254, 8, 1]) := Lib.hid (isb_lit wn #[.int .u8 254, .int .u8 8, .int .u8 1] [254, 8, 1] 3 rfl rfl)
  replace HB := Lib.hid (HB.out.alloc HB.out.size (.cells #[.int .u8 254, .int .u8 8, .int .u8 1] 5))
  go_wp2_with fail
  go_at_call 24
  refine (of22_spec 0 1 2 1 _).mono ?_
  rintro e wn ⟨rfl, hb⟩
  replace HB := Lib.hid (pure_below HB.out hb)
  replace HX := Lib.hid (HX.out.pure hb)
  clear hb
  go_wp2_with fail
  go_at_call 76
  refine (ints_yes _ 3 3 0 1 2 1 [254, 8, 1] 254 0 _ HX.out (by decide) (by decide) (by decide) (by decide)).mono ?_
  rintro e wn ⟨rfl, hb⟩
  replace HB := Lib.hid (pure_below HB.out hb)
  replace HX := Lib.hid (HX.out.pure hb)
  clear hb
  go_wp2_with fail
  replace HX : Hid (IsB (wn.alloc (.cells #[.int .u8 2] 5)) (some ⟨wn.heap.size, 0, none⟩) 1 [2]) := Lib.hid (isb_lit wn #[.int .u8 2] [2] 1 rfl rfl)
  replace HB := Lib.hid (HB.out.alloc HB.out.size (.cells #[.int .u8 2] 5))
  go_wp2_with fail
  go_at_call 24
  refine (of22_spec 0 1 26 1 _).mono ?_
  rintro e wn ⟨rfl, hb⟩
  replace HB := Lib.hid (pure_below HB.out hb)
  replace HX := Lib.hid (HX.out.pure hb)
  clear hb
  go_wp2_with fail
  go_at_call 76
  refine (ints_yes _ 1 1 0 1 26 1 [2] 1 0 _ HX.out (by decide) (by decide) (by decide) (by decide)).mono ?_
  rintro e wn ⟨rfl, hb⟩
  replace HB := Lib.hid (pure_below HB.out hb)
  replace HX := Lib.hid (HX.out.pure hb)
  clear hb
  go_wp2_with fail
  replace HX : Hid (IsB (wn.alloc (.cells #[.int .u8 7] 5)) (some ⟨wn.heap.size, 0, none⟩) 1 [7]) := Lib.hid (isb_lit wn #[.int .u8 7] [7] 1 rfl rfl)
  replace HB := Lib.hid (HB.out.alloc HB.out.size (.cells #[.int .u8 7] 5))
  go_wp2_with fail
  go_at_call 24
  refine (of22_spec 0 1 0 4 _).mono ?_
  rintro e wn ⟨rfl, hb⟩
  replace HB := Lib.hid (pure_below HB.out hb)
  replace HX := Lib.hid (HX.out.pure hb)
  clear hb
  go_wp2_with fail
  go_at_call 77
  refine (uints_yes _ 1 1 0 1 0 4 [7] 0 0 _ HX.out (by decide) (by decide) (by decide) (by decide)).mono ?_
  rintro e wn ⟨rfl, hb⟩
  replace HB := Lib.hid (pure_below HB.out hb)
  replace HX := Lib.hid (HX.out.pure hb)
  clear hb
  go_wp2_with fail
  replace HX : Hid (IsB (wn.alloc (.cells #[.int .u8 44, .int .u8 1, .int .u8 2, .int .u8 25, .int .u8 1] 5)) (some ⟨wn.heap.size, 0, none⟩) 5 [44, 1, 2, 25, 1]) := Lib.hid (isb_lit wn #[.int .u8 44, .int .u8 1, .int .u8 2, .int .u8 25, .int .u8 1] [44, 1, 2, 25, 1] 5 rfl rfl)
  replace HB := Lib.hid (HB.out.alloc HB.out.size (.cells #[.int .u8 44, .int .u8 1, .int .u8 2, .int .u8 25, .int .u8 1] 5))
  go_wp2_with fail
  go_at_call 24
  refine (of22_spec 2 1 6 2 _).mono ?_
  rintro e wn ⟨rfl, hb⟩
  replace HB := Lib.hid (pure_below HB.out hb)
  replace HX := Lib.hid (HX.out.pure hb)
  clear hb
  go_wp2_with fail
  go_at_call 78
  refine (plc_is _ 5 5 2 1 6 2 [44, 1, 2, 25, 1] 0 2 0 _ HX.out (by decide) (by decide) (by decide) (by decide) (by decide)).mono ?_
  rintro e wn ⟨rfl, hb⟩
  replace HB := Lib.hid (pure_below HB.out hb)
  replace HX := Lib.hid (HX.out.pure hb)
  clear hb
  go_wp2_with fail
  go_at_call 24
  refine (of22_spec 2 1 6 2 _).mono ?_
  rintro e wn ⟨rfl, hb⟩
  replace HB := Lib.hid (pure_below HB.out hb)
  replace HX := Lib.hid (HX.out.pure hb)
  clear hb
  go_wp2_with fail
  go_at_call 76
  refine (ints_yes _ 5 5 2 1 6 2 [44, 1, 2, 25, 1] 300 0 _ HX.out (by decide) (by decide) (by decide) (by decide)).mono ?_
  rintro e wn ⟨rfl, hb⟩
  replace HB := Lib.hid (pure_below HB.out hb)
  replace HX := Lib.hid (HX.out.pure hb)
  clear hb
  go_wp2_with fail
  replace HX : Hid (IsB (wn.alloc (.cells #[.int .u8 0, .int .u8 44, .int .u8 1, .int .u8 2] 5)) (some ⟨wn.heap.size, 0, none⟩) 4 [0, 44, 1, 2]) := Lib.hid (isb_lit wn #[.int .u8 0, .int .u8 44, .int .u8 1, .int .u8 2] [0, 44, 1, 2] 4 rfl rfl)
  replace HB := Lib.hid (HB.out.alloc HB.out.size (.cells #[.int .u8 0, .int .u8 44, .int .u8 1, .int .u8 2] 5))
  go_wp2_with fail
  go_at_call 24
  refine (of22_spec 3 1 6 2 _).mono ?_
  rintro e wn ⟨rfl, hb⟩
  replace HB := Lib.hid (pure_below HB.out hb)
  replace HX := Lib.hid (HX.out.pure hb)
  clear hb
  go_wp2_with fail
  go_at_call 76
  refine (ints_yes _ 4 4 3 1 6 2 [0, 44, 1, 2] 0 212 _ HX.out (by decide) (by decide) (by decide) (by decide)).mono ?_
  rintro e wn ⟨rfl, hb⟩
  replace HB := Lib.hid (pure_below HB.out hb)
  replace HX := Lib.hid (HX.out.pure hb)
  clear hb
  go_wp2_with fail
  replace HX : Hid (IsB (wn.alloc (.cells #[.int .u8 0, .int .u8 1] 5)) (some ⟨wn.heap.size, 0, none⟩) 2 [0, 1]) := Lib.hid (isb_lit wn #[.int .u8 0, .int .u8 1] [0, 1] 2 rfl rfl)
  replace HB := Lib.hid (HB.out.alloc HB.out.size (.cells #[.int .u8 0, .int .u8 1] 5))
  go_wp2_with fail
  go_at_call 24
  refine (of22_spec 1 1 7 4 _).mono ?_
  rintro e wn ⟨rfl, hb⟩
  replace HB := Lib.hid (pure_below HB.out hb)
  replace HX := Lib.hid (HX.out.pure hb)
  clear hb
  go_wp2_with fail
  go_at_call 76
  refine (ints_yes _ 2 2 1 1 7 4 [0, 1] 0 211 _ HX.out (by decide) (by decide) (by decide) (by decide)).mono ?_
  rintro e wn ⟨rfl, hb⟩
  replace HB := Lib.hid (pure_below HB.out hb)
  replace HX := Lib.hid (HX.out.pure hb)
  clear hb
  go_wp2_with fail
  replace HX : Hid (IsB (wn.alloc (.cells #[.int .u8 1, .int .u8 120, .int .u8 0, .int .u8 2] 5)) (some ⟨wn.heap.size, 0, none⟩) 4 [1, 120, 0, 2]) := Lib.hid (isb_lit wn #[.int .u8 1, .int .u8 120, .int .u8 0, .int .u8 2] [1, 120, 0, 2] 4 rfl rfl)
  replace HB := Lib.hid (HB.out.alloc HB.out.size (.cells #[.int .u8 1, .int .u8 120, .int .u8 0, .int .u8 2] 5))
  go_wp2_with fail
  go_at_call 24
  refine (of22_spec 3 1 5 1 _).mono ?_
  rintro e wn ⟨rfl, hb⟩
  replace HB := Lib.hid (pure_below HB.out hb)
  replace HX := Lib.hid (HX.out.pure hb)
  clear hb
  go_wp2_with fail
  go_at_call 76
  refine (ints_yes _ 4 4 3 1 5 1 [1, 120, 0, 2] 0 60 _ HX.out (by decide) (by decide) (by decide) (by decide)).mono ?_
  rintro e wn ⟨rfl, hb⟩
  replace HB := Lib.hid (pure_below HB.out hb)
  replace HX := Lib.hid (HX.out.pure hb)
  clear hb
  go_wp2_with fail
  replace HX : Hid (IsB (wn.alloc (.cells #[.int .u8 255, .int .u8 255, .int .u8 255, .int .u8 255, .int .u8 255, .int .u8 255, .int .u8 255, .int .u8 255] 5)) (some ⟨wn.heap.size, 0, none⟩) 8 [255, 255, 255, 255, 255, 255, 255, 255]) := Lib.hid (isb_lit wn #[.int .u8 255, .int .u8 255, .int .u8 255, .int .u8 255, .int .u8 255, .int .u8 255, .int .u8 255, .int .u8 255] [255, 255, 255, 255, 255, 255, 255, 255] 8 rfl rfl)
  replace HB := Lib.hid (HB.out.alloc HB.out.size (.cells #[.int .u8 255, .int .u8 255, .int .u8 255, .int .u8 255, .int .u8 255, .int .u8 255, .int .u8 255, .int .u8 255] 5))
  go_wp2_with fail
  go_at_call 24
  refine (of22_spec 0 8 2 8 _).mono ?_
  rintro e wn ⟨rfl, hb⟩
  replace HB := Lib.hid (pure_below HB.out hb)
  replace HX := Lib.hid (HX.out.pure hb)
  clear hb
  go_wp2_with fail
  go_at_call 76
  refine (ints_yes _ 8 8 0 8 2 8 [255, 255, 255, 255, 255, 255, 255, 255] 0 10 _ HX.out (by decide) (by decide) (by decide) (by decide)).mono ?_
  rintro e wn ⟨rfl, hb⟩
  replace HB := Lib.hid (pure_below HB.out hb)
  replace HX := Lib.hid (HX.out.pure hb)
  clear hb
  go_wp2_with fail
  go_at_call 24
  refine (of22_spec 0 8 2 8 _).mono ?_
  rintro e wn ⟨rfl, hb⟩
  replace HB := Lib.hid (pure_below HB.out hb)
  replace HX := Lib.hid (HX.out.pure hb)
  clear hb
  go_wp2_with fail
  go_at_call 77
  refine (uints_yes _ 8 8 0 8 2 8 [255, 255, 255, 255, 255, 255, 255, 255] 18446744073709551615 0 _ HX.out (by decide) (by decide) (by decide) (by decide)).mono ?_
  rintro e wn ⟨rfl, hb⟩
  replace HB := Lib.hid (pure_below HB.out hb)
  replace HX := Lib.hid (HX.out.pure hb)
  clear hb
  go_wp2
  go_ret
  exact ⟨rfl, HB.out⟩
end Go.Proofs.Ytaigofpipoimkaa
