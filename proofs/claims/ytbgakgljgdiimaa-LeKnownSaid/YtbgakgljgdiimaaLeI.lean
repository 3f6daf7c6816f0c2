/-
  Package le: the examples of the chapter.
-/
import Derived.Test.YtbgakgljgdiimaaLeH
namespace Go.Proofs.Ytbgakgljgdiimaa
open Go.RowKit Go.Acc

theorem isb_lit (w : World) (vs : Array Value) (l : List UInt8) (n : Nat) (hn : l.length = n) (h : vs.toList = l.flatMap bc) : IsB (w.alloc (.cells vs 5)) (some ⟨w.heap.size, 0, none⟩) n l :=
  ⟨hn, fun j u hj => ⟨_, _, rfl, by rw [(Blk.new w 5 vs).cell, Nat.zero_add, ← Array.getElem?_toList, h]; exact hj⟩⟩

theorem isb_lit2 (w : World) (o : Obj) (vs : Array Value) (l : List UInt8) (n : Nat) (hn : l.length = n) (h : vs.toList = l.flatMap bc) : IsB ((w.alloc o).alloc (.cells vs 5)) (some ⟨w.heap.size + 1, 0, none⟩) n l := by
  have h := isb_lit (w.alloc o) vs l n hn h
  have e : (w.alloc o).heap.size = w.heap.size + 1 := by simp
  rw [e] at h
  exact h
theorem isb_lit3 (w : World) (o o2 : Obj) (vs : Array Value) (l : List UInt8) (n : Nat) (hn : l.length = n) (h : vs.toList = l.flatMap bc) : IsB (((w.alloc o).alloc o2).alloc (.cells vs 5)) (some ⟨w.heap.size + 1 + 1, 0, none⟩) n l := by
  have h := isb_lit2 (w.alloc o) o2 vs l n hn h
  have e : (w.alloc o).heap.size = w.heap.size + 1 := by simp
  rw [e] at h
  exact h
theorem loadi_is (A : Option Addr) (n c : Nat) (a x : Int) (l : List UInt8) (w : World) (v er : Int) (hl : IsB w A n l) (hc : n ≤ c) (hn : n ≤ 9223372036854775807) (h1 : loadI l a x = v) (h2 : loadE n a x = er) :
    Calls Try.prog 13 #[.slice A n c, .int .i64 a, .int .i64 x] w fun e w' => e = .returned (.tuple #[.int .i64 v, .int .i64 er]) ∧ Below w.heap.size w w' := by
  subst h1 h2
  exact loadi_spec A n c a x l w hl hc hn
theorem loads_yes (A : Option Addr) (n c : Nat) (a x : Int) (l : List UInt8) (w : World) (u er : Int) (hl : IsB w A n l) (hc : n ≤ c) (hn : n ≤ 9223372036854775807) (h1 : (loadU l a x : Int) = u) (h2 : loadE n a x = er) :
    Calls Try.prog 28 #[.slice A n c, .int .i64 a, .int .i64 x, .int .u64 u, .int .i64 er] w fun e w' => e = .returned (.bool true) ∧ Below w.heap.size w w' := by
  have HL := Lib.hid hl
  have HN := Lib.hid hn
  have H1 := Lib.hid h1
  have H2 := Lib.hid h2
  clear hl hn h1 h2
  go_enter Try.func28, Try.ntmps28
  go_wp2_with (go_at_call 11; refine (load_spec A n c a x l _ HL.out hc HN.out).mono ?_; rw [H1.out, H2.out]; rintro e w1 ⟨rfl, hb⟩; have HB := Lib.hid hb; clear hb)
  go_ret
  exact ⟨rfl, HB.out⟩
theorem puts_yes (A B : Option Addr) (n n' c d : Nat) (er : Int) (l : List UInt8) (w : World) (ha : IsB w A n l) (hb : IsB w B n' l) :
    Calls Try.prog 29 #[.slice A n c, .int .i64 er, .int .i64 er, .slice B n' d] w fun e w' => e = .returned (.bool true) ∧ w = w' := by
  have HA := Lib.hid ha
  have HB := Lib.hid hb
  clear ha hb
  go_enter Try.func29, Try.ntmps29
  go_wp2_with (go_at_call 15; refine (eqb_spec A B n n' c d l l _ HA.out HB.out).mono ?_; rw [eqB_self]; rintro e w1 ⟨rfl, rfl⟩)
  go_ret
  exact ⟨rfl, rfl⟩
theorem put_is (A : Option Addr) (n c : Nat) (u x : Int) (U : Nat) (l m : List UInt8) (er : Int) (w : World) (h : IsB w A n l) (hc : n ≤ c) (hn : n ≤ 1099511627776) (hU : u = U) (hu : (U : Int) < 18446744073709551616)
    (h1 : putB l x U (fitsU x.toNat U) = m) (h2 : putE x (fitsU x.toNat U) = er) : Calls Try.prog 17 #[.slice A n c, .int .i64 x, .int .u64 u] w (PutW w m er) := by
  subst h1 h2 hU
  exact put_spec A n c U x l w h hc hn hu
theorem puti_is (A : Option Addr) (n c : Nat) (v x : Int) (l m : List UInt8) (er : Int) (w : World) (h : IsB w A n l) (hc : n ≤ c) (hn : n ≤ 1099511627776) (hm : -9223372036854775808 ≤ v ∧ v ≤ 9223372036854775807)
    (h1 : putB l x (v % 18446744073709551616).toNat (fitsI x.toNat v) = m) (h2 : putE x (fitsI x.toNat v) = er) : Calls Try.prog 19 #[.slice A n c, .int .i64 x, .int .i64 v] w (PutW w m er) := by
  subst h1 h2
  exact puti_spec A n c x v l w h hc hn hm
theorem set_is (A : Option Addr) (n c : Nat) (u a x : Int) (U : Nat) (l m : List UInt8) (er : Int) (w : World) (h : IsB w A n l) (hn : n ≤ 1099511627776) (hU : u = U) (hu : (U : Int) < 18446744073709551616)
    (h1 : setB l a x U (fitsU x.toNat U) = m) (h2 : setE n a x (fitsU x.toNat U) = er) : Calls Try.prog 21 #[.slice A n c, .int .i64 a, .int .i64 x, .int .u64 u] w (PutW w m er) := by
  subst h1 h2 hU
  exact set_spec A n c U a x l w h hn hu

set_option maxRecDepth 100000 in
set_option maxHeartbeats 1500000 in
theorem works_spec (w : World) : Calls Try.prog 16 #[] w fun e w' => e = .returned (.bool true) ∧ Below w.heap.size w w' := by
  go_enter Try.func16, Try.ntmps16
  have HX := Lib.hid (isb_lit w #[.int .u8 1, .int .u8 2, .int .u8 255] [1, 2, 255] 3 rfl rfl)
  have HB := Lib.hid ((Below.refl w.heap.size w).alloc (Nat.le_refl _) (.cells #[.int .u8 1, .int .u8 2, .int .u8 255] 5))
  go_wp2_with (go_at_call 28; refine (loads_yes _ _ _ _ _ [1, 2, 255] _ _ _ HX.out (by decide) (by decide) (by decide) (by decide)).mono ?_; rintro e w1 ⟨rfl, hb⟩; have HX := Lib.hid (HX.out.pure hb); have HB := Lib.hid (pure_below HB.out hb); clear hb)
  refine (loadi_is _ 3 3 2 1 [1, 2, 255] _ (-1) 0 HX.out (by decide) (by decide) (by decide) (by decide)).mono ?_
  rintro e w2 ⟨rfl, hb⟩
  have HB := Lib.hid (pure_below HB.out hb)
  clear hb HX
  go_wp2_with fail
  refine (loadi_is _ 2 2 0 2 [0, 128] _ (-32768) 0 (isb_lit _ #[.int .u8 0, .int .u8 128] [0, 128] 2 rfl rfl) (by decide) (by decide) (by decide) (by decide)).mono ?_
  rintro e w3 ⟨rfl, hb⟩
  have HB := Lib.hid (pure_below (HB.out.alloc HB.out.size _) hb)
  clear hb
  go_wp2_with fail
  refine (put_is _ 1 1 _ 2 513 [170] [170, 1, 2] 0 _ (isb_lit _ #[.int .u8 170] [170] 1 rfl rfl) (by decide) (by decide) rfl (by decide) (by decide) (by decide)).mono ?_
  rintro e w4 ⟨A1, n1, c1, rfl, hO1, hb⟩
  obtain rfl : 3 = n1 := hO1.1
  have HB := Lib.hid (pure_below (HB.out.alloc HB.out.size _) hb)
  have H1 := Lib.hid hO1.is
  clear hb hO1
  go_wp2_with fail
  refine (put_is none 0 0 _ 1 256 [] [] 10 _ (Is.nil _ _) (by decide) (by decide) rfl (by decide) (by decide) (by decide)).mono ?_
  rintro e w5 ⟨A2, n2, c2, rfl, hO2, hb⟩
  obtain rfl : 0 = n2 := hO2.1
  have HB := Lib.hid (pure_below HB.out hb)
  have H1 := Lib.hid (H1.out.pure hb)
  have H2 := Lib.hid hO2.is
  clear hb hO2
  go_wp2_with fail
  refine (puti_is none 0 0 (-2) 2 [] [254, 255] 0 _ (Is.nil _ _) (by decide) (by decide) (by decide) (by decide) (by decide)).mono ?_
  rintro e w6 ⟨A3, n3, c3, rfl, hO3, hb⟩
  obtain rfl : 2 = n3 := hO3.1
  have HB := Lib.hid (pure_below HB.out hb)
  have H1 := Lib.hid (H1.out.pure hb)
  have H2 := Lib.hid (H2.out.pure hb)
  have H3 := Lib.hid hO3.is
  clear hb hO3
  go_wp2_with fail
  refine (puti_is none 0 0 128 1 [] [] 10 _ (Is.nil _ _) (by decide) (by decide) (by decide) (by decide) (by decide)).mono ?_
  rintro e w7 ⟨A4, n4, c4, rfl, hO4, hb⟩
  obtain rfl : 0 = n4 := hO4.1
  have HB := Lib.hid (pure_below HB.out hb)
  have H1 := Lib.hid (H1.out.pure hb)
  have H2 := Lib.hid (H2.out.pure hb)
  have H3 := Lib.hid (H3.out.pure hb)
  have H4 := Lib.hid hO4.is
  clear hb hO4
  go_wp2_with fail
  refine (puts_yes A1 _ 3 3 c1 3 0 [170, 1, 2] _ (H1.out.alloc _) (isb_lit _ #[.int .u8 170, .int .u8 1, .int .u8 2] [170, 1, 2] 3 rfl rfl)).mono ?_
  rintro e w' ⟨rfl, rfl⟩
  go_wp2_with fail
  refine (puts_yes A2 none 0 0 c2 0 10 [] _ (H2.out.alloc _) (Is.nil _ _)).mono ?_
  rintro e w' ⟨rfl, rfl⟩
  go_wp2_with fail
  refine (puts_yes A3 _ 2 2 c3 2 0 [254, 255] _ ((H3.out.alloc (.cells #[.int .u8 170, .int .u8 1, .int .u8 2] 5)).alloc (.cells #[.int .u8 254, .int .u8 255] 5)) (isb_lit2 w7 (.cells #[.int .u8 170, .int .u8 1, .int .u8 2] 5) #[.int .u8 254, .int .u8 255] [254, 255] 2 rfl rfl)).mono ?_
  rintro e w' ⟨rfl, rfl⟩
  go_wp2_with fail
  refine (puts_yes A4 none 0 0 c4 0 10 [] _ ((H4.out.alloc _).alloc _) (Is.nil _ _)).mono ?_
  rintro e w' ⟨rfl, rfl⟩
  have HB := Lib.hid (HB.out.alloc HB.out.size (.cells #[.int .u8 170, .int .u8 1, .int .u8 2] 5))
  have HB := Lib.hid (HB.out.alloc HB.out.size (.cells #[.int .u8 254, .int .u8 255] 5))
  clear H1 H2 H3 H4
  go_wp2_with fail
  refine (set_is _ 3 3 _ 1 2 0 [1, 2, 3] [1, 0, 0] 0 _ (isb_lit3 w7 (.cells #[.int .u8 170, .int .u8 1, .int .u8 2] 5) (.cells #[.int .u8 254, .int .u8 255] 5) #[.int .u8 1, .int .u8 2, .int .u8 3] [1, 2, 3] 3 rfl rfl) (by decide) rfl (by decide) (by decide) (by decide)).mono ?_
  rintro e w8 ⟨A1, n1, c1, rfl, hO1, hb⟩
  obtain rfl : 3 = n1 := hO1.1
  have HB := Lib.hid (pure_below (HB.out.alloc HB.out.size _) hb)
  have H1 := Lib.hid hO1.is
  clear hb hO1
  go_wp2_with fail
  refine (set_is _ 1 1 _ 1 1 0 [1] [] 6 _ (isb_lit _ #[.int .u8 1] [1] 1 rfl rfl) (by decide) rfl (by decide) (by decide) (by decide)).mono ?_
  rintro e w9 ⟨A2, n2, c2, rfl, hO2, hb⟩
  obtain rfl : 0 = n2 := hO2.1
  have HB := Lib.hid (pure_below (HB.out.alloc HB.out.size _) hb)
  have H1 := Lib.hid ((H1.out.alloc _).pure hb)
  have H2 := Lib.hid hO2.is
  clear hb hO2
  go_wp2_with fail
  refine (set_is _ 1 1 _ (-1) 1 0 [1] [] 6 _ (isb_lit _ #[.int .u8 1] [1] 1 rfl rfl) (by decide) rfl (by decide) (by decide) (by decide)).mono ?_
  rintro e w10 ⟨A3, n3, c3, rfl, hO3, hb⟩
  obtain rfl : 0 = n3 := hO3.1
  have HB := Lib.hid (pure_below (HB.out.alloc HB.out.size _) hb)
  have H1 := Lib.hid ((H1.out.alloc _).pure hb)
  have H2 := Lib.hid ((H2.out.alloc _).pure hb)
  have H3 := Lib.hid hO3.is
  clear hb hO3
  go_wp2_with fail
  refine (puts_yes A1 _ 3 3 c1 3 0 [1, 0, 0] _ (H1.out.alloc _) (isb_lit _ #[.int .u8 1, .int .u8 0, .int .u8 0] [1, 0, 0] 3 rfl rfl)).mono ?_
  rintro e w' ⟨rfl, rfl⟩
  go_wp2_with fail
  refine (puts_yes A2 none 0 0 c2 0 6 [] _ (H2.out.alloc _) (Is.nil _ _)).mono ?_
  rintro e w' ⟨rfl, rfl⟩
  go_wp2_with fail
  refine (puts_yes A3 none 0 0 c3 0 6 [] _ (H3.out.alloc _) (Is.nil _ _)).mono ?_
  rintro e w' ⟨rfl, rfl⟩
  go_wp2
  go_ret
  exact ⟨rfl, HB.out.alloc HB.out.size _⟩
end Go.Proofs.Ytbgakgljgdiimaa
