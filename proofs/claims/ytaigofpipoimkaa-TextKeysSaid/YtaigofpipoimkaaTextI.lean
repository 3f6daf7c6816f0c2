/-
  Package text: the examples of the chapter.
-/
import Derived.Test.YtaigofpipoimkaaTextH
import Derived.Test.YtaigofpipoimkaaRefE
namespace Go.Proofs.Ytaigofpipoimkaa
open Go.RowKit Go.Acc
set_option maxHeartbeats 400000 in
theorem of23_spec (p q t v : Int) (w : World) : Calls Try.prog 29 #[.int .i64 p, .int .i64 q, .int .i64 t, .int .i64 v] w fun e w' => e = .returned (.agg #[.int .i64 p, .int .i64 q, .int .i64 t, .int .i64 v]) ∧ Below w.heap.size w w' := by
  go_enter Try.func29, Try.ntmps29
  go_wp2
  refine bodyPost_ret (v := .agg #[.int .i64 p, .int .i64 q, .int .i64 t, .int .i64 v]) (by simp [results, Try.results29, go_sem]) rfl ⟨rfl, ?_⟩
  exact (Below.refl _ _).alloc (Nat.le_refl _) _
set_option maxHeartbeats 400000 in
theorem is23_yes (s : ByteArray) (x : Int) (w : World) : Calls Try.prog 31 #[.string s, .int .i64 x, .string s, .int .i64 x] w fun e w' => e = .returned (.bool true) ∧ w = w' := by
  go_enter Try.func31, Try.ntmps31
  go_wp2
  go_ret
  exact ⟨rfl, rfl⟩
theorem strt_is (A : Option Addr) (n c : Nat) (p q t v : Int) (l m : List UInt8) (s : ByteArray) (er : Int) (w : World) (h : IsB w A n l) (hc : n ≤ c) (hn : n ≤ 1099511627776) (h1 : fndL l p q t v [5] = m) (h2 : fndE l p q t v [5] = er) (h3 : (⟨m.toArray⟩ : ByteArray) = s) :
    Calls Try.prog 82 #[.slice A n c, .agg #[.int .i64 p, .int .i64 q, .int .i64 t, .int .i64 v]] w fun e w' => e = .returned (.tuple #[.string s, .int .i64 er]) ∧ Below w.heap.size w w' := by
  subst h1 h2 h3
  exact strt_spec A n c p q t v l w h hc hn
theorem keyt_is (A : Option Addr) (n c : Nat) (p q t v : Int) (l m : List UInt8) (s : ByteArray) (er : Int) (w : World) (h : IsB w A n l) (hc : n ≤ c) (hn : n ≤ 1099511627776) (h1 : fndL l p q t v [4] = m) (h2 : fndE l p q t v [4] = er) (h3 : (⟨m.toArray⟩ : ByteArray) = s) :
    Calls Try.prog 28 #[.slice A n c, .agg #[.int .i64 p, .int .i64 q, .int .i64 t, .int .i64 v]] w fun e w' => e = .returned (.tuple #[.string s, .int .i64 er]) ∧ Below w.heap.size w w' := by
  subst h1 h2 h3
  exact keyt_spec A n c p q t v l w h hc hn
theorem blobt_is (A : Option Addr) (n c : Nat) (p q t v : Int) (l m : List UInt8) (s : ByteArray) (er : Int) (w : World) (h : IsB w A n l) (hc : n ≤ c) (hn : n ≤ 1099511627776) (h1 : fndL l p q t v [25] = m) (h2 : fndE l p q t v [25] = er) (h3 : (⟨m.toArray⟩ : ByteArray) = s) :
    Calls Try.prog 84 #[.slice A n c, .agg #[.int .i64 p, .int .i64 q, .int .i64 t, .int .i64 v]] w fun e w' => e = .returned (.tuple #[.string s, .int .i64 er]) ∧ Below w.heap.size w w' := by
  subst h1 h2 h3
  exact blobt_spec A n c p q t v l w h hc hn
theorem textt_is (A : Option Addr) (n c : Nat) (p q t v : Int) (l m : List UInt8) (s : ByteArray) (er : Int) (w : World) (h : IsB w A n l) (hc : n ≤ c) (hn : n ≤ 1099511627776) (h1 : fndL l p q t v [4, 5] = m) (h2 : fndE l p q t v [4, 5] = er) (h3 : (⟨m.toArray⟩ : ByteArray) = s) :
    Calls Try.prog 83 #[.slice A n c, .agg #[.int .i64 p, .int .i64 q, .int .i64 t, .int .i64 v]] w fun e w' => e = .returned (.tuple #[.string s, .int .i64 er]) ∧ Below w.heap.size w w' := by
  subst h1 h2 h3
  exact textt_spec A n c p q t v l w h hc hn
theorem place_is (A : Option Addr) (n c : Nat) (p q t v : Int) (l : List UInt8) (a k er : Int) (w : World) (h : IsB w A n l) (hc : n ≤ c) (hn : n ≤ 1099511627776) (h1 : fndA l p q t v [4, 5, 25] = a) (h2 : ((fndL l p q t v [4, 5, 25]).length : Int) = k) (h3 : fndE l p q t v [4, 5, 25] = er) :
    Calls Try.prog 81 #[.slice A n c, .agg #[.int .i64 p, .int .i64 q, .int .i64 t, .int .i64 v]] w fun e w' => e = .returned (.tuple #[.int .i64 a, .int .i64 k, .int .i64 er]) ∧ Below w.heap.size w w' := by
  subst h1 h2 h3
  exact place_spec A n c p q t v l w h hc hn
set_option maxRecDepth 100000 in
set_option maxHeartbeats 4000000 in
theorem textworks_spec (w : World) : Calls Try.prog 32 #[] w fun e w' => e = .returned (.bool true) ∧ Below w.heap.size w w' := by
  have HX := Lib.hid (isb_lit w #[.int .u8 2, .int .u8 97, .int .u8 98, .int .u8 0, .int .u8 3] [2, 97, 98, 0, 3] 5 rfl rfl)
  have HB := Lib.hid ((Below.refl w.heap.size w).alloc (Nat.le_refl _) (.cells #[.int .u8 2, .int .u8 97, .int .u8 98, .int .u8 0, .int .u8 3] 5))
  go_enter Try.func32, Try.ntmps32
  go_wp2_with fail
  go_at_call 29
  refine (of23_spec 4 1 5 1 _).mono ?_
  rintro e wn ⟨rfl, hb⟩
  have HB := Lib.hid (pure_below HB.out hb)
  have HX := Lib.hid (HX.out.pure hb)
  clear hb
  go_wp2_with fail
  go_at_call 81
  refine (place_is _ 5 5 4 1 5 1 [2, 97, 98, 0, 3] 1 2 0 _ HX.out (by decide) (by decide) (by decide) (by decide) (by decide)).mono ?_
  rintro e wn ⟨rfl, hb⟩
  have HB := Lib.hid (pure_below HB.out hb)
  have HX := Lib.hid (HX.out.pure hb)
  clear hb
  go_wp2_with fail
  go_at_call 29
  refine (of23_spec 4 1 5 1 _).mono ?_
  rintro e wn ⟨rfl, hb⟩
  have HB := Lib.hid (pure_below HB.out hb)
  have HX := Lib.hid (HX.out.pure hb)
  clear hb
  go_wp2_with fail
  go_at_call 82
  refine (strt_is _ 5 5 4 1 5 1 [2, 97, 98, 0, 3] [97, 98] _ 0 _ HX.out (by decide) (by decide) (by decide) (by decide) rfl).mono ?_
  rintro e wn ⟨rfl, hb⟩
  have HB := Lib.hid (pure_below HB.out hb)
  have HX := Lib.hid (HX.out.pure hb)
  clear hb
  go_wp2_with fail
  go_at_call 29
  refine (of23_spec 4 1 4 1 _).mono ?_
  rintro e wn ⟨rfl, hb⟩
  have HB := Lib.hid (pure_below HB.out hb)
  have HX := Lib.hid (HX.out.pure hb)
  clear hb
  go_wp2_with fail
  go_at_call 28
  refine (keyt_is _ 5 5 4 1 4 1 [2, 97, 98, 0, 3] [97, 98] _ 0 _ HX.out (by decide) (by decide) (by decide) (by decide) rfl).mono ?_
  rintro e wn ⟨rfl, hb⟩
  have HB := Lib.hid (pure_below HB.out hb)
  have HX := Lib.hid (HX.out.pure hb)
  clear hb
  go_wp2_with fail
  go_at_call 29
  refine (of23_spec 4 1 5 1 _).mono ?_
  rintro e wn ⟨rfl, hb⟩
  have HB := Lib.hid (pure_below HB.out hb)
  have HX := Lib.hid (HX.out.pure hb)
  clear hb
  go_wp2_with fail
  go_at_call 28
  refine (keyt_is _ 5 5 4 1 5 1 [2, 97, 98, 0, 3] [] _ 60 _ HX.out (by decide) (by decide) (by decide) (by decide) rfl).mono ?_
  rintro e wn ⟨rfl, hb⟩
  have HB := Lib.hid (pure_below HB.out hb)
  have HX := Lib.hid (HX.out.pure hb)
  clear hb
  go_wp2_with fail
  go_at_call 29
  refine (of23_spec 4 1 5 1 _).mono ?_
  rintro e wn ⟨rfl, hb⟩
  have HB := Lib.hid (pure_below HB.out hb)
  have HX := Lib.hid (HX.out.pure hb)
  clear hb
  go_wp2_with fail
  go_at_call 83
  refine (textt_is _ 5 5 4 1 5 1 [2, 97, 98, 0, 3] [97, 98] _ 0 _ HX.out (by decide) (by decide) (by decide) (by decide) rfl).mono ?_
  rintro e wn ⟨rfl, hb⟩
  have HB := Lib.hid (pure_below HB.out hb)
  have HX := Lib.hid (HX.out.pure hb)
  clear hb
  go_wp2_with (first | (go_at_call 31; refine (is23_yes _ _ _).mono ?_; rintro e w' ⟨rfl, rfl⟩))
  go_wp2_with fail
  have HX : Hid (IsB (wn.alloc (.cells #[.int .u8 2, .int .u8 97, .int .u8 98, .int .u8 99, .int .u8 3] 5)) (some ⟨wn.heap.size, 0, none⟩) 5 [2, 97, 98, 99, 3]) := Lib.hid (isb_lit wn #[.int .u8 2, .int .u8 97, .int .u8 98, .int .u8 99, .int .u8 3] [2, 97, 98, 99, 3] 5 rfl rfl)
  have HB := Lib.hid (HB.out.alloc HB.out.size (.cells #[.int .u8 2, .int .u8 97, .int .u8 98, .int .u8 99, .int .u8 3] 5))
  go_wp2_with fail
  go_at_call 29
  refine (of23_spec 4 1 25 1 _).mono ?_
  rintro e wn ⟨rfl, hb⟩
  have HB := Lib.hid (pure_below HB.out hb)
  have HX := Lib.hid (HX.out.pure hb)
  clear hb
  go_wp2_with fail
  go_at_call 84
  refine (blobt_is _ 5 5 4 1 25 1 [2, 97, 98, 99, 3] [97, 98] _ 0 _ HX.out (by decide) (by decide) (by decide) (by decide) rfl).mono ?_
  rintro e wn ⟨rfl, hb⟩
  have HB := Lib.hid (pure_below HB.out hb)
  have HX := Lib.hid (HX.out.pure hb)
  clear hb
  go_wp2_with fail
  go_at_call 29
  refine (of23_spec 4 1 5 1 _).mono ?_
  rintro e wn ⟨rfl, hb⟩
  have HB := Lib.hid (pure_below HB.out hb)
  have HX := Lib.hid (HX.out.pure hb)
  clear hb
  go_wp2_with fail
  go_at_call 82
  refine (strt_is _ 5 5 4 1 5 1 [2, 97, 98, 99, 3] [] _ 213 _ HX.out (by decide) (by decide) (by decide) (by decide) rfl).mono ?_
  rintro e wn ⟨rfl, hb⟩
  have HB := Lib.hid (pure_below HB.out hb)
  have HX := Lib.hid (HX.out.pure hb)
  clear hb
  go_wp2_with fail
  have HX : Hid (IsB (wn.alloc (.cells #[.int .u8 0, .int .u8 2, .int .u8 97, .int .u8 98, .int .u8 0, .int .u8 3] 5)) (some ⟨wn.heap.size, 0, none⟩) 6 [0, 2, 97, 98, 0, 3]) := Lib.hid (isb_lit wn #[.int .u8 0, .int .u8 2, .int .u8 97, .int .u8 98, .int .u8 0, .int .u8 3] [0, 2, 97, 98, 0, 3] 6 rfl rfl)
  have HB := Lib.hid (HB.out.alloc HB.out.size (.cells #[.int .u8 0, .int .u8 2, .int .u8 97, .int .u8 98, .int .u8 0, .int .u8 3] 5))
  go_wp2_with fail
  go_at_call 29
  refine (of23_spec 5 1 5 2 _).mono ?_
  rintro e wn ⟨rfl, hb⟩
  have HB := Lib.hid (pure_below HB.out hb)
  have HX := Lib.hid (HX.out.pure hb)
  clear hb
  go_wp2_with fail
  go_at_call 82
  refine (strt_is _ 6 6 5 1 5 2 [0, 2, 97, 98, 0, 3] [] _ 211 _ HX.out (by decide) (by decide) (by decide) (by decide) rfl).mono ?_
  rintro e wn ⟨rfl, hb⟩
  have HB := Lib.hid (pure_below HB.out hb)
  have HX := Lib.hid (HX.out.pure hb)
  clear hb
  go_wp2_with fail
  have HX : Hid (IsB (wn.alloc (.cells #[.int .u8 4, .int .u8 97, .int .u8 98, .int .u8 0, .int .u8 3] 5)) (some ⟨wn.heap.size, 0, none⟩) 5 [4, 97, 98, 0, 3]) := Lib.hid (isb_lit wn #[.int .u8 4, .int .u8 97, .int .u8 98, .int .u8 0, .int .u8 3] [4, 97, 98, 0, 3] 5 rfl rfl)
  have HB := Lib.hid (HB.out.alloc HB.out.size (.cells #[.int .u8 4, .int .u8 97, .int .u8 98, .int .u8 0, .int .u8 3] 5))
  go_wp2_with fail
  go_at_call 29
  refine (of23_spec 4 1 5 1 _).mono ?_
  rintro e wn ⟨rfl, hb⟩
  have HB := Lib.hid (pure_below HB.out hb)
  have HX := Lib.hid (HX.out.pure hb)
  clear hb
  go_wp2_with fail
  go_at_call 82
  refine (strt_is _ 5 5 4 1 5 1 [4, 97, 98, 0, 3] [] _ 211 _ HX.out (by decide) (by decide) (by decide) (by decide) rfl).mono ?_
  rintro e wn ⟨rfl, hb⟩
  have HB := Lib.hid (pure_below HB.out hb)
  have HX := Lib.hid (HX.out.pure hb)
  clear hb
  go_wp2_with (first | (go_at_call 31; refine (is23_yes _ _ _).mono ?_; rintro e w' ⟨rfl, rfl⟩))
  go_wp2_with fail
  have HX : Hid (IsB (wn.alloc (.cells #[.int .u8 4, .int .u8 97, .int .u8 98, .int .u8 0, .int .u8 3] 5)) (some ⟨wn.heap.size, 0, none⟩) 5 [4, 97, 98, 0, 3]) := Lib.hid (isb_lit wn #[.int .u8 4, .int .u8 97, .int .u8 98, .int .u8 0, .int .u8 3] [4, 97, 98, 0, 3] 5 rfl rfl)
  have HB := Lib.hid (HB.out.alloc HB.out.size (.cells #[.int .u8 4, .int .u8 97, .int .u8 98, .int .u8 0, .int .u8 3] 5))
  go_wp2_with fail
  go_at_call 29
  refine (of23_spec 4 1 25 1 _).mono ?_
  rintro e wn ⟨rfl, hb⟩
  have HB := Lib.hid (pure_below HB.out hb)
  have HX := Lib.hid (HX.out.pure hb)
  clear hb
  go_wp2_with fail
  go_at_call 84
  refine (blobt_is _ 5 5 4 1 25 1 [4, 97, 98, 0, 3] [97, 98, 0, 3] _ 0 _ HX.out (by decide) (by decide) (by decide) (by decide) rfl).mono ?_
  rintro e wn ⟨rfl, hb⟩
  have HB := Lib.hid (pure_below HB.out hb)
  have HX := Lib.hid (HX.out.pure hb)
  clear hb
  go_wp2_with fail
  have HX : Hid (IsB (wn.alloc (.cells #[.int .u8 97, .int .u8 1] 5)) (some ⟨wn.heap.size, 0, none⟩) 2 [97, 1]) := Lib.hid (isb_lit wn #[.int .u8 97, .int .u8 1] [97, 1] 2 rfl rfl)
  have HB := Lib.hid (HB.out.alloc HB.out.size (.cells #[.int .u8 97, .int .u8 1] 5))
  go_wp2_with fail
  go_at_call 29
  refine (of23_spec 1 1 5 1 _).mono ?_
  rintro e wn ⟨rfl, hb⟩
  have HB := Lib.hid (pure_below HB.out hb)
  have HX := Lib.hid (HX.out.pure hb)
  clear hb
  go_wp2_with fail
  go_at_call 82
  refine (strt_is _ 2 2 1 1 5 1 [97, 1] [] _ 211 _ HX.out (by decide) (by decide) (by decide) (by decide) rfl).mono ?_
  rintro e wn ⟨rfl, hb⟩
  have HB := Lib.hid (pure_below HB.out hb)
  have HX := Lib.hid (HX.out.pure hb)
  clear hb
  go_wp2_with fail
  have HX : Hid (IsB (wn.alloc (.cells #[.int .u8 0, .int .u8 0, .int .u8 97, .int .u8 2] 5)) (some ⟨wn.heap.size, 0, none⟩) 4 [0, 0, 97, 2]) := Lib.hid (isb_lit wn #[.int .u8 0, .int .u8 0, .int .u8 97, .int .u8 2] [0, 0, 97, 2] 4 rfl rfl)
  have HB := Lib.hid (HB.out.alloc HB.out.size (.cells #[.int .u8 0, .int .u8 0, .int .u8 97, .int .u8 2] 5))
  go_wp2_with fail
  go_at_call 29
  refine (of23_spec 3 1 5 2 _).mono ?_
  rintro e wn ⟨rfl, hb⟩
  have HB := Lib.hid (pure_below HB.out hb)
  have HX := Lib.hid (HX.out.pure hb)
  clear hb
  go_wp2_with fail
  go_at_call 82
  refine (strt_is _ 4 4 3 1 5 2 [0, 0, 97, 2] [] _ 212 _ HX.out (by decide) (by decide) (by decide) (by decide) rfl).mono ?_
  rintro e wn ⟨rfl, hb⟩
  have HB := Lib.hid (pure_below HB.out hb)
  have HX := Lib.hid (HX.out.pure hb)
  clear hb
  go_wp2_with fail
  have HX : Hid (IsB (wn.alloc (.cells #[.int .u8 97, .int .u8 1] 5)) (some ⟨wn.heap.size, 0, none⟩) 2 [97, 1]) := Lib.hid (isb_lit wn #[.int .u8 97, .int .u8 1] [97, 1] 2 rfl rfl)
  have HB := Lib.hid (HB.out.alloc HB.out.size (.cells #[.int .u8 97, .int .u8 1] 5))
  go_wp2_with fail
  go_at_call 29
  refine (of23_spec 1 1 4 8 _).mono ?_
  rintro e wn ⟨rfl, hb⟩
  have HB := Lib.hid (pure_below HB.out hb)
  have HX := Lib.hid (HX.out.pure hb)
  clear hb
  go_wp2_with fail
  go_at_call 28
  refine (keyt_is _ 2 2 1 1 4 8 [97, 1] [] _ 213 _ HX.out (by decide) (by decide) (by decide) (by decide) rfl).mono ?_
  rintro e wn ⟨rfl, hb⟩
  have HB := Lib.hid (pure_below HB.out hb)
  have HX := Lib.hid (HX.out.pure hb)
  clear hb
  go_wp2_with fail
  have HX : Hid (IsB (wn.alloc (.cells #[.int .u8 5] 5)) (some ⟨wn.heap.size, 0, none⟩) 1 [5]) := Lib.hid (isb_lit wn #[.int .u8 5] [5] 1 rfl rfl)
  have HB := Lib.hid (HB.out.alloc HB.out.size (.cells #[.int .u8 5] 5))
  go_wp2_with fail
  go_at_call 29
  refine (of23_spec 0 1 1 1 _).mono ?_
  rintro e wn ⟨rfl, hb⟩
  have HB := Lib.hid (pure_below HB.out hb)
  have HX := Lib.hid (HX.out.pure hb)
  clear hb
  go_wp2_with fail
  go_at_call 81
  refine (place_is _ 1 1 0 1 1 1 [5] 0 0 60 _ HX.out (by decide) (by decide) (by decide) (by decide) (by decide)).mono ?_
  rintro e wn ⟨rfl, hb⟩
  have HB := Lib.hid (pure_below HB.out hb)
  have HX := Lib.hid (HX.out.pure hb)
  clear hb
  go_wp2_with (first | (go_at_call 31; refine (is23_yes _ _ _).mono ?_; rintro e w' ⟨rfl, rfl⟩))
  go_ret
  exact ⟨rfl, HB.out⟩
end Go.Proofs.Ytaigofpipoimkaa
