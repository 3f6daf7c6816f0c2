/-
  Package le: the property LeLoads.
-/
import Derived.Test.YtbgakgljgdiimaaLeRow
namespace Go.Proofs.Ytbgakgljgdiimaa
open Go.RowKit Go.Acc

set_option maxHeartbeats 1000000 in
theorem leloads_spec (A : Option Addr) (n c : Nat) (a x : Int) (l : List UInt8) (w : World) (h : IsB w A n l) (hc : n ≤ c) :
    Calls Try.prog 3 #[.slice A n c, .int .i64 a, .int .i64 x] w fun e w' => e = .returned (.bool true) ∧ Below w.heap.size w w' := by
  have HR := Lib.hid h
  clear h
  by_cases h300 : n ≤ 300
  · have HM := Lib.hid (HR.out.take bc_len (k := n) (by omega))
    clear HR
    go_enter Try.func3, Try.ntmps3
    go_wp2_with fail
    go_at_call 10
    refine (copyb_spec A (n) c (l.take (n)) w HM.out (by omega)).mono ?_
    rintro e w1 ⟨A1, n1, c1, rfl, hO1, hb1⟩
    obtain rfl : n = n1 := by rw [← hO1.1, HM.out.1]
    have HB := Lib.hid hb1
    have HI := Lib.hid hO1.is
    have hc1 := hO1.cap.1
    have HM := Lib.hid (HM.out.pure hb1)
    clear hO1 hb1
    go_wp2_with (first
      | (go_at_call 11; refine (load_spec A1 (n) c1 a x _ _ HI.out hc1 (by omega)).mono ?_; rintro e w2 ⟨rfl, hb⟩; have HB := Lib.hid (pure_below HB.out hb); have HI := Lib.hid (HI.out.pure hb); have HM := Lib.hid (HM.out.pure hb); clear hb)
      | (go_at_call 12; refine (rload_spec A1 (n) c1 a x _ _ HI.out (by omega)).mono ?_; rintro e w2 ⟨rfl, hb⟩; have HB := Lib.hid (pure_below HB.out hb); have HI := Lib.hid (HI.out.pure hb); have HM := Lib.hid (HM.out.pure hb); clear hb)
      | (go_at_call 13; refine (loadi_spec A1 (n) c1 a x _ _ HI.out hc1 (by omega)).mono ?_; rintro e w2 ⟨rfl, hb⟩; have HB := Lib.hid (pure_below HB.out hb); have HI := Lib.hid (HI.out.pure hb); have HM := Lib.hid (HM.out.pure hb); clear hb)
      | (go_at_call 14; refine (rloadi_spec A1 (n) c1 a x _ _ HI.out (by omega)).mono ?_; rintro e w2 ⟨rfl, hb⟩; have HB := Lib.hid (pure_below HB.out hb); have HI := Lib.hid (HI.out.pure hb); have HM := Lib.hid (HM.out.pure hb); clear hb)
      | (go_at_call 15; refine (eqb_spec A1 A (n) (n) c1 c _ _ _ HI.out HM.out).mono ?_; rw [eqB_self]; rintro e w2 ⟨rfl, rfl⟩)
      | (go_at_call 16; refine (works_spec _).mono ?_; rintro e w2 ⟨rfl, hb⟩; have HB := Lib.hid (pure_below HB.out hb); clear hb))
    go_ret
    exact ⟨rfl, HB.out⟩
  · have HM := Lib.hid (HR.out.take bc_len (k := 300) (by omega))
    clear HR
    go_enter Try.func3, Try.ntmps3
    go_wp2_with fail
    go_at_call 10
    refine (copyb_spec A (300) c (l.take (300)) w HM.out (by omega)).mono ?_
    rintro e w1 ⟨A1, n1, c1, rfl, hO1, hb1⟩
    obtain rfl : 300 = n1 := by rw [← hO1.1, HM.out.1]
    have HB := Lib.hid hb1
    have HI := Lib.hid hO1.is
    have hc1 := hO1.cap.1
    have HM := Lib.hid (HM.out.pure hb1)
    clear hO1 hb1
    go_wp2_with (first
      | (go_at_call 11; refine (load_spec A1 (300) c1 a x _ _ HI.out hc1 (by omega)).mono ?_; rintro e w2 ⟨rfl, hb⟩; have HB := Lib.hid (pure_below HB.out hb); have HI := Lib.hid (HI.out.pure hb); have HM := Lib.hid (HM.out.pure hb); clear hb)
      | (go_at_call 12; refine (rload_spec A1 (300) c1 a x _ _ HI.out (by omega)).mono ?_; rintro e w2 ⟨rfl, hb⟩; have HB := Lib.hid (pure_below HB.out hb); have HI := Lib.hid (HI.out.pure hb); have HM := Lib.hid (HM.out.pure hb); clear hb)
      | (go_at_call 13; refine (loadi_spec A1 (300) c1 a x _ _ HI.out hc1 (by omega)).mono ?_; rintro e w2 ⟨rfl, hb⟩; have HB := Lib.hid (pure_below HB.out hb); have HI := Lib.hid (HI.out.pure hb); have HM := Lib.hid (HM.out.pure hb); clear hb)
      | (go_at_call 14; refine (rloadi_spec A1 (300) c1 a x _ _ HI.out (by omega)).mono ?_; rintro e w2 ⟨rfl, hb⟩; have HB := Lib.hid (pure_below HB.out hb); have HI := Lib.hid (HI.out.pure hb); have HM := Lib.hid (HM.out.pure hb); clear hb)
      | (go_at_call 15; refine (eqb_spec A1 A (300) (300) c1 c _ _ _ HI.out HM.out).mono ?_; rw [eqB_self]; rintro e w2 ⟨rfl, rfl⟩)
      | (go_at_call 16; refine (works_spec _).mono ?_; rintro e w2 ⟨rfl, hb⟩; have HB := Lib.hid (pure_below HB.out hb); clear hb))
    go_ret
    exact ⟨rfl, HB.out⟩

open Go.ChangeShapes Go.WideShapes Go.ChangeAt
theorem leLoads_run {H : Type} {enc : TypeId × Value → H} {v0 v1 v2 : Value} {d0 d1 d2 : DataW H} {p0 p1 p2 : List MemPlace} (W : World) (base : Nat) (k0 : Value.okWide Try.prog W .any base 22 v0) (k1 : Value.okWide Try.prog W .any base 3 v1) (k2 : Value.okWide Try.prog W .any base 3 v2)
    (h0 : DataW.Trod enc Try.prog W 0 (fun _ => true) true 22 v0 d0 p0) (h1 : DataW.Trod enc Try.prog W 0 (fun _ => true) true 3 v1 d1 p1) (h2 : DataW.Trod enc Try.prog W 0 (fun _ => true) true 3 v2 d2 p2) :
    Calls Try.prog 3 #[v0, v1, v2] W fun e w' => e = .returned (.bool true) ∧ Below W.heap.size W w' := by
  obtain ⟨A, n, c, l, rfl, hI, hc, _⟩ := bytes_arg k0 h0
  obtain ⟨m1, rfl, _⟩ := int_arg k1 h1
  obtain ⟨m2, rfl, _⟩ := int_arg k2 h2
  exact leloads_spec A n c m1 m2 l W hI hc

set_option maxRecDepth 100000 in
theorem leLoads_lifted (os : Os) (started : os.Started) (H : Type) (enc : TypeId × Value → H) :
    ReturnsInHanded {} Try.checked os 3 .any (Rows.leLoadsSpec.pre6 enc Try.prog Try.f3 Rows.leLoadsRow.domain false) (Rows.leLoadsSpec.post enc Try.prog Try.f3 false true false false) := by
  refine returnsInHanded_of_change (C := Try.checked) acc_own started (by kernel_rfl) Try.func3
    (ChangeSpec.witness6 (enc := enc) (C := Try.checked) false ⟨#[], #[.slice none 0 0, .int .i64 0, .int .i64 0], []⟩ 8 (by kernel_rfl) (by kernel_rfl) (by kernel_rfl) (by kernel_rfl)) ?_
  intro W base args ds gs before hval0 hW hcnd _
  have hval : ∀ (j : Nat) t v, Try.f3.params[j]? = some t → args[j]? = some v → Value.okWide Try.prog W .any base t v := hval0
  have hW' := hW
  obtain ⟨p, q, hA0, hV, rfl, hfz, hnd⟩ := hW
  have hA : DataW.TrodAll enc Try.prog W 0 (fun _ => true) true Try.f3.params.toList args.toList ds p := hA0
  rw [Try.params3] at hA
  rw [Try.params3] at hval
  obtain ⟨v0, vs0, d0, ds0, p0, q0, hargs, rfl, rfl, h0, r0⟩ := trodAll_cons hA
  obtain ⟨v1, vs1, d1, ds1, p1, q1, rfl, rfl, rfl, h1, r1⟩ := trodAll_cons r0
  obtain ⟨v2, vs2, d2, ds2, p2, q2, rfl, rfl, rfl, h2, r2⟩ := trodAll_cons r1
  obtain ⟨rfl, rfl, rfl⟩ := trodAll_nil r2
  obtain rfl : args = #[v0, v1, v2] := by cases args; simp_all
  obtain ⟨rfl, rfl⟩ := trodVars_none hV
  have k0 := hval 0 22 v0 rfl rfl
  have k1 := hval 1 3 v1 rfl rfl
  have k2 := hval 2 3 v2 rfl rfl
  clear hA0 hval0
  refine (leLoads_run (enc := enc) W base k0 k1 k2 h0 h1 h2).mono fun e W' ⟨he, bel⟩ => ?_
  subst he
  exact ⟨_, rfl, _, _, _, [], _, [], hW', trodAll_mk1 (shut_bool Try.underlying4 _), (trodAll_cons_mk (below_arg acc_laidOut (by kernel_rfl) (of_decide_eq_true (by kernel_rfl)) h0 bel) (trodAll_cons_mk (below_arg acc_laidOut (by kernel_rfl) (of_decide_eq_true (by kernel_rfl)) h1 bel) (trodAll_cons_mk (below_arg acc_laidOut (by kernel_rfl) (of_decide_eq_true (by kernel_rfl)) h2 bel) trodAll_mk0))), rfl, bel.frame _, fun h => by cases h⟩

theorem leLoads_holds : Rows.LeLoadsSaid :=
  OpenClaim.holds_of_wide 3 Try.f3 rfl rfl rfl rfl rfl rfl rfl ⟨rfl, rfl, rfl, rfl, rfl⟩ rfl rfl rfl rfl rfl (by kernel_rfl) Try.func3 (by kernel_rfl)
    (of_decide_eq_true (by kernel_rfl)) (by unfold Func.isWrapper; rw [if_neg (of_decide_eq_false (by kernel_rfl))]; exact ⟨rfl, rfl⟩)
    (fun os started H enc _ => leLoads_lifted os started H enc)
#print axioms leLoads_holds
end Go.Proofs.Ytbgakgljgdiimaa
