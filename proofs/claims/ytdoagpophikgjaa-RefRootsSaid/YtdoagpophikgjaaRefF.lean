/-
  Package ref: the property RefRoots.
-/
import Derived.Test.YtdoagpophikgjaaRefRow
namespace Go.Proofs.Ytdoagpophikgjaa
open Go.RowKit Go.Acc
theorem rroot_spec2 (A : Option Addr) (n c : Nat) (l : List UInt8) (w : World) (a b d e f : Int) (hl : IsB w A n l) (hn : n ≤ 9223372036854775807) (h : rootR l = (a, b, d, e)) (h' : rootE l = f) :
    Calls Try.prog 16 #[.slice A n c] w fun e' w' => e' = .returned (.tuple #[.agg #[.int .i64 a, .int .i64 b, .int .i64 d, .int .i64 e], .int .i64 f]) ∧ Below w.heap.size w w' := by
  have := rroot_spec A n c l w hl hn
  rw [h, h'] at this
  exact this
set_option maxHeartbeats 1000000 in
theorem refroots_spec (A : Option Addr) (n c : Nat) (l : List UInt8) (w : World) (h : IsB w A n l) (hc : n ≤ c) :
    Calls Try.prog 3 #[.slice A n c] w fun e w' => e = .returned (.bool true) ∧ Below w.heap.size w w' := by
  have HR := Lib.hid h
  clear h
  by_cases h600 : n ≤ 600
  · have HM := Lib.hid (HR.out.take bc_len (k := n) (by omega))
    clear HR
    go_enter Try.func3, Try.ntmps3
    go_wp2_with fail
    go_at_call 14
    refine (copyb_spec A (n) c (l.take (n)) w HM.out (by omega)).mono ?_
    rintro e w1 ⟨A1, n1, c1, rfl, hO1, hb1⟩
    obtain rfl : n = n1 := by rw [← hO1.1, HM.out.1]
    have HB := Lib.hid hb1
    have HI := Lib.hid hO1.is
    have HM := Lib.hid (HM.out.pure hb1)
    clear hO1 hb1
    obtain ⟨r0, r1, r2, r3, hr⟩ : ∃ a b c d, rootR (l.take (n)) = (a, b, c, d) := ⟨_, _, _, _, rfl⟩
    obtain ⟨re, hre⟩ : ∃ a, rootE (l.take (n)) = a := ⟨_, rfl⟩
    have HRR := Lib.hid hr
    have HRE := Lib.hid hre
    clear hr hre
    go_wp2_with fail
    go_at_call 15
    refine (root_spec2 A1 (n) c1 _ _ r0 r1 r2 r3 re HI.out (by omega) HRR.out HRE.out).mono ?_
    rintro e w2 ⟨rfl, hb⟩
    have HB := Lib.hid ((pure_below HB.out hb).alloc (pure_below HB.out hb).size (.cells #[.int .i64 r0, .int .i64 r1, .int .i64 r2, .int .i64 r3] 25))
    have HI := Lib.hid ((HI.out.pure hb).alloc (.cells #[.int .i64 r0, .int .i64 r1, .int .i64 r2, .int .i64 r3] 25))
    have HM := Lib.hid ((HM.out.pure hb).alloc (.cells #[.int .i64 r0, .int .i64 r1, .int .i64 r2, .int .i64 r3] 25))
    have HK := Lib.hid (Blk.new w2 25 #[.int .i64 r0, .int .i64 r1, .int .i64 r2, .int .i64 r3])
    clear hb
    go_wp2_with fail
    go_at_call 16
    refine (rroot_spec2 A1 (n) c1 _ _ r0 r1 r2 r3 re HI.out (by omega) HRR.out HRE.out).mono ?_
    rintro e w3 ⟨rfl, hb⟩
    have HB := Lib.hid ((pure_below HB.out hb).alloc (pure_below HB.out hb).size (.cells #[.int .i64 r0, .int .i64 r1, .int .i64 r2, .int .i64 r3] 25))
    have HI := Lib.hid ((HI.out.pure hb).alloc (.cells #[.int .i64 r0, .int .i64 r1, .int .i64 r2, .int .i64 r3] 25))
    have HM := Lib.hid ((HM.out.pure hb).alloc (.cells #[.int .i64 r0, .int .i64 r1, .int .i64 r2, .int .i64 r3] 25))
    have c0 := cell0 (HK.out.pure hb)
    have c1 := cell1 (HK.out.pure hb)
    have c2 := cell2 (HK.out.pure hb)
    have c3 := cell3 (HK.out.pure hb)
    have hlt := (HK.out.pure hb).lt
    clear hb
    go_wp2_with fail
    go_at_call 17
    refine (eqb_spec A1 A (n) (n) _ c _ _ _ HI.out HM.out).mono ?_
    rw [eqB_self]
    rintro e w4 ⟨rfl, rfl⟩
    go_wp2_with fail
    go_at_call 18
    refine (refworks_spec _).mono ?_
    rintro e w5 ⟨rfl, hb⟩
    have HB := Lib.hid (pure_below HB.out hb)
    clear hb
    go_wp2
    go_ret
    exact ⟨rfl, HB.out⟩
  · have h6 : 600 < n := by omega
    clear h600
    have HM := Lib.hid (HR.out.take bc_len (k := 600) (by omega))
    clear HR
    go_enter Try.func3, Try.ntmps3
    go_wp2_with fail
    go_at_call 14
    refine (copyb_spec A (600) c (l.take (600)) w HM.out (by omega)).mono ?_
    rintro e w1 ⟨A1, n1, c1, rfl, hO1, hb1⟩
    obtain rfl : 600 = n1 := by rw [← hO1.1, HM.out.1]
    have HB := Lib.hid hb1
    have HI := Lib.hid hO1.is
    have HM := Lib.hid (HM.out.pure hb1)
    clear hO1 hb1
    obtain ⟨r0, r1, r2, r3, hr⟩ : ∃ a b c d, rootR (l.take (600)) = (a, b, c, d) := ⟨_, _, _, _, rfl⟩
    obtain ⟨re, hre⟩ : ∃ a, rootE (l.take (600)) = a := ⟨_, rfl⟩
    have HRR := Lib.hid hr
    have HRE := Lib.hid hre
    clear hr hre
    go_wp2_with fail
    go_at_call 15
    refine (root_spec2 A1 (600) c1 _ _ r0 r1 r2 r3 re HI.out (by omega) HRR.out HRE.out).mono ?_
    rintro e w2 ⟨rfl, hb⟩
    have HB := Lib.hid ((pure_below HB.out hb).alloc (pure_below HB.out hb).size (.cells #[.int .i64 r0, .int .i64 r1, .int .i64 r2, .int .i64 r3] 25))
    have HI := Lib.hid ((HI.out.pure hb).alloc (.cells #[.int .i64 r0, .int .i64 r1, .int .i64 r2, .int .i64 r3] 25))
    have HM := Lib.hid ((HM.out.pure hb).alloc (.cells #[.int .i64 r0, .int .i64 r1, .int .i64 r2, .int .i64 r3] 25))
    have HK := Lib.hid (Blk.new w2 25 #[.int .i64 r0, .int .i64 r1, .int .i64 r2, .int .i64 r3])
    clear hb
    go_wp2_with fail
    go_at_call 16
    refine (rroot_spec2 A1 (600) c1 _ _ r0 r1 r2 r3 re HI.out (by omega) HRR.out HRE.out).mono ?_
    rintro e w3 ⟨rfl, hb⟩
    have HB := Lib.hid ((pure_below HB.out hb).alloc (pure_below HB.out hb).size (.cells #[.int .i64 r0, .int .i64 r1, .int .i64 r2, .int .i64 r3] 25))
    have HI := Lib.hid ((HI.out.pure hb).alloc (.cells #[.int .i64 r0, .int .i64 r1, .int .i64 r2, .int .i64 r3] 25))
    have HM := Lib.hid ((HM.out.pure hb).alloc (.cells #[.int .i64 r0, .int .i64 r1, .int .i64 r2, .int .i64 r3] 25))
    have c0 := cell0 (HK.out.pure hb)
    have c1 := cell1 (HK.out.pure hb)
    have c2 := cell2 (HK.out.pure hb)
    have c3 := cell3 (HK.out.pure hb)
    have hlt := (HK.out.pure hb).lt
    clear hb
    go_wp2_with fail
    go_at_call 17
    refine (eqb_spec A1 A (600) (600) _ c _ _ _ HI.out HM.out).mono ?_
    rw [eqB_self]
    rintro e w4 ⟨rfl, rfl⟩
    go_wp2_with fail
    go_at_call 18
    refine (refworks_spec _).mono ?_
    rintro e w5 ⟨rfl, hb⟩
    have HB := Lib.hid (pure_below HB.out hb)
    clear hb
    go_wp2
    go_ret
    exact ⟨rfl, HB.out⟩

open Go.ChangeShapes Go.WideShapes Go.ChangeAt
theorem refRoots_run {H : Type} {enc : TypeId × Value → H} {v0 : Value} {d0 : DataW H} {p0 : List MemPlace} (W : World) (base : Nat) (k0 : Value.okWide Try.prog W .any base 22 v0)
    (h0 : DataW.Trod enc Try.prog W 0 (fun _ => true) true 22 v0 d0 p0) :
    Calls Try.prog 3 #[v0] W fun e w' => e = .returned (.bool true) ∧ Below W.heap.size W w' := by
  obtain ⟨A, n, c, l, rfl, hI, hc, _⟩ := bytes_arg k0 h0
  exact refroots_spec A n c l W hI hc

set_option maxRecDepth 100000 in
theorem refRoots_lifted (os : Os) (started : os.Started) (H : Type) (enc : TypeId × Value → H) :
    ReturnsInHanded {} Try.checked os 3 .any (Rows.refRootsSpec.pre6 enc Try.prog Try.f3 Rows.refRootsRow.domain false) (Rows.refRootsSpec.post enc Try.prog Try.f3 false true false false) := by
  refine returnsInHanded_of_change (C := Try.checked) acc_own started (by kernel_rfl) Try.func3
    (ChangeSpec.witness6 (enc := enc) (C := Try.checked) false ⟨#[], #[.slice none 0 0], []⟩ 8 (by kernel_rfl) (by kernel_rfl) (by kernel_rfl) (by kernel_rfl)) ?_
  intro W base args ds gs before hval0 hW hcnd _
  have hval : ∀ (j : Nat) t v, Try.f3.params[j]? = some t → args[j]? = some v → Value.okWide Try.prog W .any base t v := hval0
  have hW' := hW
  obtain ⟨p, q, hA0, hV, rfl, hfz, hnd⟩ := hW
  have hA : DataW.TrodAll enc Try.prog W 0 (fun _ => true) true Try.f3.params.toList args.toList ds p := hA0
  rw [Try.params3] at hA
  rw [Try.params3] at hval
  obtain ⟨v0, vs0, d0, ds0, p0, q0, hargs, rfl, rfl, h0, r0⟩ := trodAll_cons hA
  obtain ⟨rfl, rfl, rfl⟩ := trodAll_nil r0
  obtain rfl : args = #[v0] := by cases args; simp_all
  obtain ⟨rfl, rfl⟩ := trodVars_none hV
  have k0 := hval 0 22 v0 rfl rfl
  clear hA0 hval0
  refine (refRoots_run (enc := enc) W base k0 h0).mono fun e W' ⟨he, bel⟩ => ?_
  subst he
  exact ⟨_, rfl, _, _, _, [], _, [], hW', trodAll_mk1 (shut_bool Try.underlying4 _), (trodAll_cons_mk (below_arg acc_laidOut (by kernel_rfl) (of_decide_eq_true (by kernel_rfl)) h0 bel) trodAll_mk0), rfl, bel.frame _, fun h => by cases h⟩

theorem refRoots_holds : Rows.RefRootsSaid :=
  OpenClaim.holds_of_wide 3 Try.f3 rfl rfl rfl rfl rfl rfl rfl ⟨rfl, rfl, rfl, rfl, rfl⟩ rfl rfl rfl rfl rfl (by kernel_rfl) Try.func3 (by kernel_rfl)
    (of_decide_eq_true (by kernel_rfl)) (by unfold Func.isWrapper; rw [if_neg (of_decide_eq_false (by kernel_rfl))]; exact ⟨rfl, rfl⟩)
    (fun os started H enc _ => refRoots_lifted os started H enc)
#print axioms refRoots_holds
end Go.Proofs.Ytdoagpophikgjaa
