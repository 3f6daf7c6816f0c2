/-
  Package ref: the examples of the chapter.
-/
import Derived.Test.YtmahemllfghdfaaRefD
namespace Go.Proofs.Ytmahemllfghdfaa
open Go.RowKit Go.Acc
/-- The bytes of a literal. -/
def unb (vs : Array Value) : List UInt8 := vs.toList.map fun v => match v with | .int _ z => UInt8.ofNat z.toNat | _ => 0
theorem isb_vs (w : World) (vs : Array Value) (n : Nat) (hn : vs.size = n) (h : vs.toList = (unb vs).flatMap bc) : IsB (w.alloc (.cells vs 5)) (some ⟨w.heap.size, 0, none⟩) n (unb vs) :=
  ⟨by rw [← hn]; simp [unb], fun j u hj => ⟨_, _, rfl, by rw [(Blk.new w 5 vs).cell, Nat.zero_add, ← Array.getElem?_toList, h]; exact hj⟩⟩
theorem root_spec2 (A : Option Addr) (n c : Nat) (l : List UInt8) (w : World) (a b d e f : Int) (hl : IsB w A n l) (hn : n ≤ 9223372036854775807) (h : rootR l = (a, b, d, e)) (h' : rootE l = f) :
    Calls Try.prog 27 #[.slice A n c] w fun e' w' => e' = .returned (.tuple #[.agg #[.int .i64 a, .int .i64 b, .int .i64 d, .int .i64 e], .int .i64 f]) ∧ Below w.heap.size w w' := by
  have := root_spec A n c l w hl hn
  rw [h, h'] at this
  exact this
set_option maxHeartbeats 400000 in
theorem of21_spec (p q t v : Int) (w : World) : Calls Try.prog 10 #[.int .i64 p, .int .i64 q, .int .i64 t, .int .i64 v] w fun e w' => e = .returned (.agg #[.int .i64 p, .int .i64 q, .int .i64 t, .int .i64 v]) ∧ Below w.heap.size w w' := by
  go_enter Try.func10, Try.ntmps10
  go_wp2
  refine bodyPost_ret (v := .agg #[.int .i64 p, .int .i64 q, .int .i64 t, .int .i64 v]) (by simp [results, Try.results10, go_sem]) rfl ⟨rfl, ?_⟩
  exact (Below.refl _ _).alloc (Nat.le_refl _) _
set_option maxHeartbeats 400000 in
theorem rootl_yes (A : Option Addr) (n c : Nat) (l : List UInt8) (w : World) (a b d e f : Int) (hl : IsB w A n l) (hn : n ≤ 9223372036854775807) (h : rootR l = (a, b, d, e)) (h' : rootE l = f) :
    Calls Try.prog 18 #[.agg #[.int .i64 a, .int .i64 b, .int .i64 d, .int .i64 e], .int .i64 f, .slice A n c] w fun e w' => e = .returned (.bool true) ∧ Below w.heap.size w w' := by
  have HL := Lib.hid (hl.alloc (.cells #[.int .i64 a, .int .i64 b, .int .i64 d, .int .i64 e] 23))
  have HK := Lib.hid (Blk.new w 23 #[.int .i64 a, .int .i64 b, .int .i64 d, .int .i64 e])
  have HB := Lib.hid ((Below.refl w.heap.size w).alloc (Nat.le_refl _) (.cells #[.int .i64 a, .int .i64 b, .int .i64 d, .int .i64 e] 23))
  have H1 := Lib.hid h
  have H2 := Lib.hid h'
  clear hl h h'
  go_enter Try.func18, Try.ntmps18
  go_wp2_with fail
  go_at_call 27
  refine (root_spec2 A n c l _ a b d e f HL.out hn H1.out H2.out).mono ?_
  rintro e w1 ⟨rfl, hb⟩
  have HB := Lib.hid (pure_below HB.out hb)
  have c0 := cell0 (HK.out.pure hb)
  have c1 := cell1 (HK.out.pure hb)
  have c2 := cell2 (HK.out.pure hb)
  have c3 := cell3 (HK.out.pure hb)
  have hlt := (HK.out.pure hb).lt
  clear hb
  go_wp2
  go_ret
  exact ⟨rfl, HB.out.alloc HB.out.size _⟩
theorem rootl_lit (w : World) (vs : Array Value) (n : Nat) (a b d e f : Int) (hn : vs.size = n) (hs : n ≤ 9223372036854775807) (h : vs.toList = (unb vs).flatMap bc) (h1 : rootR (unb vs) = (a, b, d, e)) (h2 : rootE (unb vs) = f) :
    Calls Try.prog 18 #[.agg #[.int .i64 a, .int .i64 b, .int .i64 d, .int .i64 e], .int .i64 f, .slice (some ⟨w.heap.size, 0, none⟩) n n] (w.alloc (.cells vs 5)) fun e w' => e = .returned (.bool true) ∧ Below w.heap.size w w' :=
  (rootl_yes _ n n (unb vs) _ a b d e f (isb_vs w vs n hn h) hs h1 h2).mono fun _ _ ⟨h, hb⟩ => ⟨h, pure_trans ((Below.refl w.heap.size w).alloc (Nat.le_refl _) _) hb⟩
set_option maxHeartbeats 400000 in
theorem leads_yes (A : Option Addr) (n c : Nat) (l : List UInt8) (w : World) (p q t v x f : Int) (hl : IsB w A n l) (hc : n ≤ c) (hn : n ≤ 9223372036854775807) (h : tgt l p q t v = x) (h' : tgtE l p q t v = f) :
    Calls Try.prog 19 #[.slice A n c, .agg #[.int .i64 p, .int .i64 q, .int .i64 t, .int .i64 v], .int .i64 x, .int .i64 f] w fun e w' => e = .returned (.bool true) ∧ Below w.heap.size w w' := by
  have HL := Lib.hid (hl.alloc (.cells #[.int .i64 p, .int .i64 q, .int .i64 t, .int .i64 v] 23))
  have H1 := Lib.hid h
  have H2 := Lib.hid h'
  clear hl h h'
  go_enter Try.func19, Try.ntmps19
  go_wp2_with fail
  go_at_call 7
  refine (target_spec A n c p q t v l _ HL.out hc hn).mono ?_
  rw [H1.out, H2.out]
  rintro e w1 ⟨rfl, hb⟩
  have HB := Lib.hid (pure_trans ((Below.refl w.heap.size w).alloc (Nat.le_refl _) _) hb)
  clear hb
  go_wp2
  go_ret
  exact ⟨rfl, HB.out⟩
set_option maxRecDepth 100000 in
set_option maxHeartbeats 4000000 in
theorem refworks_spec (w : World) : Calls Try.prog 9 #[] w fun e w' => e = .returned (.bool true) ∧ Below w.heap.size w w' := by
  have HK := Lib.hid (Blk.new w 23 #[.int .i64 0, .int .i64 0, .int .i64 0, .int .i64 0])
  have HB := Lib.hid ((Below.refl w.heap.size w).alloc (Nat.le_refl _) (.cells #[.int .i64 0, .int .i64 0, .int .i64 0, .int .i64 0] 23))
  go_enter Try.func9, Try.ntmps9
  go_wp2_with (first
    | (go_at_call 10; refine (of21_spec _ _ _ _ _).mono ?_; rintro e wn ⟨rfl, hb⟩; have HB := Lib.hid (pure_below HB.out hb); have HK := Lib.hid (HK.out.pure hb); have c0 := cell0 HK.out; have c1 := cell1 HK.out; have c2 := cell2 HK.out; have c3 := cell3 HK.out; have hlt := HK.out.lt; clear hb)
    | (go_at_call 18; refine (rootl_lit _ _ _ _ _ _ _ _ (by rfl) (by decide) (by rfl) (by decide) (by decide)).mono ?_; rintro e wn ⟨rfl, hb⟩; clear c0 c1 c2 c3 hlt; have HB := Lib.hid (pure_below HB.out hb); have HK := Lib.hid (HK.out.pure hb); have c0 := cell0 HK.out; have c1 := cell1 HK.out; have c2 := cell2 HK.out; have c3 := cell3 HK.out; have hlt := HK.out.lt; clear hb))
  have HX := Lib.hid (isb_vs wn #[.int .u8 1, .int .u8 120, .int .u8 0, .int .u8 2, .int .u8 20, .int .u8 1] 6 (by rfl) (by rfl))
  have HB := Lib.hid (HB.out.alloc HB.out.size (.cells #[.int .u8 1, .int .u8 120, .int .u8 0, .int .u8 2, .int .u8 20, .int .u8 1] 5))
  clear c0 c1 c2 c3 hlt
  go_wp2_with (first
    | (go_at_call 10; refine (of21_spec _ _ _ _ _).mono ?_; rintro e wn ⟨rfl, hb⟩; have HB := Lib.hid (pure_below HB.out hb); have HX := Lib.hid (HX.out.pure hb); clear hb)
    | (go_at_call 19; refine (leads_yes _ 6 6 _ _ _ _ _ _ _ _ HX.out (by decide) (by decide) (by decide) (by decide)).mono ?_; rintro e wn ⟨rfl, hb⟩; have HB := Lib.hid (pure_below HB.out hb); have HX := Lib.hid (HX.out.pure hb); clear hb))
  have HB := Lib.hid (HB.out.alloc HB.out.size (.cells #[.int .u8 1, .int .u8 2] 5))
  clear HX HK
  go_wp2_with fail
  go_at_call 10
  refine (of21_spec 0 1 19 1 _).mono ?_
  rintro e wn ⟨rfl, hb⟩
  have HB := Lib.hid (pure_below HB.out hb)
  clear hb
  go_wp2_with fail
  go_at_call 8
  refine (kind_spec 0 1 19 1 _).mono ?_
  rw [show kindT 19 = 15 by decide]
  rintro e wn ⟨rfl, hb⟩
  have HB := Lib.hid (pure_below HB.out hb)
  clear hb
  go_wp2_with fail
  go_at_call 10
  refine (of21_spec 0 1 3 1 _).mono ?_
  rintro e wn ⟨rfl, hb⟩
  have HB := Lib.hid (pure_below HB.out hb)
  clear hb
  go_wp2_with fail
  go_at_call 8
  refine (kind_spec 0 1 3 1 _).mono ?_
  rw [show kindT 3 = 0 by decide]
  rintro e wn ⟨rfl, hb⟩
  have HB := Lib.hid (pure_below HB.out hb)
  clear hb
  go_wp2_with fail
  go_at_call 20
  refine (inside_spec _ 2 2 1 1 _ (by decide)).mono ?_
  rw [show inB 2 1 1 = true by decide]
  rintro e w' ⟨rfl, rfl⟩
  go_wp2_with fail
  go_at_call 20
  refine (inside_spec _ 2 2 2 0 _ (by decide)).mono ?_
  rw [show inB 2 2 0 = true by decide]
  rintro e w' ⟨rfl, rfl⟩
  go_wp2_with fail
  go_at_call 20
  refine (inside_spec _ 2 2 1 2 _ (by decide)).mono ?_
  rw [show inB 2 1 2 = false by decide]
  rintro e w' ⟨rfl, rfl⟩
  go_wp2
  go_ret
  exact ⟨rfl, HB.out⟩
end Go.Proofs.Ytmahemllfghdfaa
