/-
  Package ref: the property RefRoots.
-/
import Derived.Test.YtmahemllfghdfaaRefRow
namespace Go.Proofs.Ytmahemllfghdfaa
open Go.RowKit Go.Acc
theorem rroot_spec2 (A : Option Addr) (n c : Nat) (l : List UInt8) (w : World) (a b d e f : Int) (hl : IsB w A n l) (hn : n ≤ 9223372036854775807) (h : rootR l = (a, b, d, e)) (h' : rootE l = f) :
    Calls Try.prog 28 #[.slice A n c] w fun e' w' => e' = .returned (.tuple #[.agg #[.int .i64 a, .int .i64 b, .int .i64 d, .int .i64 e], .int .i64 f]) ∧ Below w.heap.size w w' := by
  have := rroot_spec A n c l w hl hn
  rw [h, h'] at this
  exact this
set_option maxHeartbeats 1000000 in
theorem refroots_spec (A : Option Addr) (n c : Nat) (l : List UInt8) (w : World) (h : IsB w A n l) (hc : n ≤ c) :
    Calls Try.prog 12 #[.slice A n c] w fun e w' => e = .returned (.bool true) ∧ Below w.heap.size w w' := by
  have HR := Lib.hid h
  clear h
  by_cases h600 : n ≤ 600
  · have HM := Lib.hid (HR.out.take bc_len (k := n) (by omega))
    clear HR
    go_enter Try.func12, Try.ntmps12
    go_wp2_with fail
    go_at_call 5
    refine (copyb_spec A (n) c (l.take (n)) w HM.out (by omega)).mono ?_
    rintro e w1 ⟨A1, n1, c1, rfl, hO1, hb1⟩
    obtain rfl : n = n1 := by rw [← hO1.1, HM.out.1]
    have HB := Lib.hid hb1
    have HI := Lib.hid hO1.is
    have HM := Lib.hid (HM.out.pure hb1)
    clear hO1 hb1
    obtain ⟨r0, r1, r2, r3, hr⟩ : ∃ a b c d, rootR (l.take (n)) = (a, b, c, d) := ⟨_, _, _, _, rfl⟩
    obtain ⟨re, hre⟩ : ∃ a, rootE (l.take (n)) = a := ⟨_, rfl⟩
    have HRR := Lib.hid hr
    have HRE := Lib.hid hre
    clear hr hre
    go_wp2_with fail
    go_at_call 27
    refine (root_spec2 A1 (n) c1 _ _ r0 r1 r2 r3 re HI.out (by omega) HRR.out HRE.out).mono ?_
    rintro e w2 ⟨rfl, hb⟩
    have HB := Lib.hid ((pure_below HB.out hb).alloc (pure_below HB.out hb).size (.cells #[.int .i64 r0, .int .i64 r1, .int .i64 r2, .int .i64 r3] 23))
    have HI := Lib.hid ((HI.out.pure hb).alloc (.cells #[.int .i64 r0, .int .i64 r1, .int .i64 r2, .int .i64 r3] 23))
    have HM := Lib.hid ((HM.out.pure hb).alloc (.cells #[.int .i64 r0, .int .i64 r1, .int .i64 r2, .int .i64 r3] 23))
    have HK := Lib.hid (Blk.new w2 23 #[.int .i64 r0, .int .i64 r1, .int .i64 r2, .int .i64 r3])
    clear hb
    go_wp2_with fail
    go_at_call 28
    refine (rroot_spec2 A1 (n) c1 _ _ r0 r1 r2 r3 re HI.out (by omega) HRR.out HRE.out).mono ?_
    rintro e w3 ⟨rfl, hb⟩
    have HB := Lib.hid ((pure_below HB.out hb).alloc (pure_below HB.out hb).size (.cells #[.int .i64 r0, .int .i64 r1, .int .i64 r2, .int .i64 r3] 23))
    have HI := Lib.hid ((HI.out.pure hb).alloc (.cells #[.int .i64 r0, .int .i64 r1, .int .i64 r2, .int .i64 r3] 23))
    have HM := Lib.hid ((HM.out.pure hb).alloc (.cells #[.int .i64 r0, .int .i64 r1, .int .i64 r2, .int .i64 r3] 23))
    have c0 := cell0 (HK.out.pure hb)
    have c1 := cell1 (HK.out.pure hb)
    have c2 := cell2 (HK.out.pure hb)
    have c3 := cell3 (HK.out.pure hb)
    have hlt := (HK.out.pure hb).lt
    clear hb
    go_wp2_with fail
    go_at_call 26
    refine (eqb_spec A1 A (n) (n) _ c _ _ _ HI.out HM.out).mono ?_
    rw [eqB_self]
    rintro e w4 ⟨rfl, rfl⟩
    go_wp2_with fail
    go_at_call 9
    refine (refworks_spec _).mono ?_
    rintro e w5 ⟨rfl, hb⟩
    have HB := Lib.hid (pure_below HB.out hb)
    clear hb
    go_wp2
    go_ret
    exact ⟨rfl, HB.out⟩
  · have h6 : 600 < n := by omega
    clear h600
    have HM := Lib.hid (HR.out.take bc_len (k := 600) (by omega))
    clear HR
    go_enter Try.func12, Try.ntmps12
    go_wp2_with fail
    go_at_call 5
    refine (copyb_spec A (600) c (l.take (600)) w HM.out (by omega)).mono ?_
    rintro e w1 ⟨A1, n1, c1, rfl, hO1, hb1⟩
    obtain rfl : 600 = n1 := by rw [← hO1.1, HM.out.1]
    have HB := Lib.hid hb1
    have HI := Lib.hid hO1.is
    have HM := Lib.hid (HM.out.pure hb1)
    clear hO1 hb1
    obtain ⟨r0, r1, r2, r3, hr⟩ : ∃ a b c d, rootR (l.take (600)) = (a, b, c, d) := ⟨_, _, _, _, rfl⟩
    obtain ⟨re, hre⟩ : ∃ a, rootE (l.take (600)) = a := ⟨_, rfl⟩
    have HRR := Lib.hid hr
    have HRE := Lib.hid hre
    clear hr hre
    go_wp2_with fail
    go_at_call 27
    refine (root_spec2 A1 (600) c1 _ _ r0 r1 r2 r3 re HI.out (by omega) HRR.out HRE.out).mono ?_
    rintro e w2 ⟨rfl, hb⟩
    have HB := Lib.hid ((pure_below HB.out hb).alloc (pure_below HB.out hb).size (.cells #[.int .i64 r0, .int .i64 r1, .int .i64 r2, .int .i64 r3] 23))
    have HI := Lib.hid ((HI.out.pure hb).alloc (.cells #[.int .i64 r0, .int .i64 r1, .int .i64 r2, .int .i64 r3] 23))
    have HM := Lib.hid ((HM.out.pure hb).alloc (.cells #[.int .i64 r0, .int .i64 r1, .int .i64 r2, .int .i64 r3] 23))
    have HK := Lib.hid (Blk.new w2 23 #[.int .i64 r0, .int .i64 r1, .int .i64 r2, .int .i64 r3])
    clear hb
    go_wp2_with fail
    go_at_call 28
    refine (rroot_spec2 A1 (600) c1 _ _ r0 r1 r2 r3 re HI.out (by omega) HRR.out HRE.out).mono ?_
    rintro e w3 ⟨rfl, hb⟩
    have HB := Lib.hid ((pure_below HB.out hb).alloc (pure_below HB.out hb).size (.cells #[.int .i64 r0, .int .i64 r1, .int .i64 r2, .int .i64 r3] 23))
    have HI := Lib.hid ((HI.out.pure hb).alloc (.cells #[.int .i64 r0, .int .i64 r1, .int .i64 r2, .int .i64 r3] 23))
    have HM := Lib.hid ((HM.out.pure hb).alloc (.cells #[.int .i64 r0, .int .i64 r1, .int .i64 r2, .int .i64 r3] 23))
    have c0 := cell0 (HK.out.pure hb)
    have c1 := cell1 (HK.out.pure hb)
    have c2 := cell2 (HK.out.pure hb)
    have c3 := cell3 (HK.out.pure hb)
    have hlt := (HK.out.pure hb).lt
    clear hb
    go_wp2_with fail
    go_at_call 26
    refine (eqb_spec A1 A (600) (600) _ c _ _ _ HI.out HM.out).mono ?_
    rw [eqB_self]
    rintro e w4 ⟨rfl, rfl⟩
    go_wp2_with fail
    go_at_call 9
    refine (refworks_spec _).mono ?_
    rintro e w5 ⟨rfl, hb⟩
    have HB := Lib.hid (pure_below HB.out hb)
    clear hb
    go_wp2
    go_ret
    exact ⟨rfl, HB.out⟩

end Go.Proofs.Ytmahemllfghdfaa
