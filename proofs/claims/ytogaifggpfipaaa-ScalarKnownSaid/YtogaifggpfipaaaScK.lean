/-
  Package scalar: the property ScalarKnown.
-/
import Derived.Test.YtogaifggpfipaaaScJ
namespace Go.Proofs.Ytogaifggpfipaaa
open Go.RowKit Go.Acc
def kb22 : List UInt8 := [0, 128, 255, 255, 255, 255, 255, 255, 8, 4, 2, 1, 0, 0, 0, 0, 16, 0, 0, 0, 0, 0, 0, 0, 128]
set_option maxRecDepth 100000 in
set_option maxHeartbeats 4000000 in
theorem scknown_spec (w : World) : Calls Try.prog 7 #[] w fun e w' => e = .returned (.bool true) ∧ Below w.heap.size w w' := by
  go_enter Try.func7, Try.ntmps7
  go_wp2_with fail
  go_loopw [2, 3, 4] (fun t _ _ wr => ∃ k : Int, -1 ≤ k ∧ k ≤ 38 ∧ t = .int .i64 k ∧ Below w.heap.size w wr ∧ IsB wr (some ⟨w.heap.size, 0, none⟩) 25 kb22) (fun t _ _ _ => (38 - intOf t).toNat)
  case atStart =>
    refine ⟨-1, by omega, by omega, rfl, (Below.refl _ _).alloc (Nat.le_refl _) _, ?_⟩
    exact isb_lit w _ kb22 25 rfl rfl
  case round =>
    obtain ⟨i, hi0, hi, rfl, hB, hT⟩ := hrel
    have HB := Lib.hid hB
    have HT := Lib.hid hT
    clear hB hT
    by_cases hlt : i < 38
    · obtain ⟨wo, rfl⟩ : ∃ wo : World, wo = wr := ⟨_, rfl⟩
      go_wp2_with fail
      go_loopw [3, 4] (fun t _ wr => ∃ k : Int, -1 ≤ k ∧ k ≤ 27 ∧ t = .int .i64 k ∧ Below wo.heap.size wo wr ∧ IsB wr (some ⟨w.heap.size, 0, none⟩) 25 kb22) (fun t _ _ => (27 - intOf t).toNat)
      case atStart => exact ⟨-1, by omega, by omega, rfl, Below.refl _ _, HT.out⟩
      case round =>
        obtain ⟨j, hj0, hj, rfl, hB, hT⟩ := hrel
        have HB2 := Lib.hid hB
        replace HT := Lib.hid hT
        clear hB hT
        by_cases hlt2 : j < 27
        · obtain ⟨wp, rfl⟩ : ∃ wp : World, wp = wr := ⟨_, rfl⟩
          go_wp2_with fail
          go_loopw [4] (fun t wr => ∃ k : Int, 0 ≤ k ∧ k ≤ 9 ∧ t = .int .i64 k ∧ Below wp.heap.size wp wr ∧ IsB wr (some ⟨w.heap.size, 0, none⟩) 25 kb22) (fun t _ => (9 - intOf t).toNat)
          case atStart => exact ⟨0, by omega, by omega, rfl, Below.refl _ _, HT.out⟩
          case round =>
            obtain ⟨x, hx0, hx, rfl, hB, hT⟩ := hrel
            have HBC := Lib.hid hB
            replace HT := Lib.hid hT
            clear hB hT
            by_cases hlt3 : x < 9
            · go_wp2_with fail
              go_at_call 28
              refine (of22_spec j x i 1 _).mono ?_
              rintro e wn ⟨rfl, hb⟩
              replace HBC := Lib.hid (pure_below HBC.out hb)
              replace HT := Lib.hid (HT.out.pure hb)
              clear hb
              go_wp2_with fail
              go_at_call 3
              refine (screads_spec _ 25 25 j x i 1 _ _ HT.out (by decide)).mono ?_
              rintro e wn ⟨rfl, hb⟩
              replace HBC := Lib.hid (pure_below HBC.out hb)
              replace HT := Lib.hid (HT.out.pure hb)
              clear hb
              go_wp2_with fail
              go_at_call 28
              refine (of22_spec j 1 i x _).mono ?_
              rintro e wn ⟨rfl, hb⟩
              replace HBC := Lib.hid (pure_below HBC.out hb)
              replace HT := Lib.hid (HT.out.pure hb)
              clear hb
              go_wp2_with fail
              go_at_call 3
              refine (screads_spec _ 25 25 j 1 i x _ _ HT.out (by decide)).mono ?_
              rintro e wn ⟨rfl, hb⟩
              replace HBC := Lib.hid (pure_below HBC.out hb)
              replace HT := Lib.hid (HT.out.pure hb)
              clear hb
              go_wp2_with fail
              go_at_call 28
              refine (of22_spec j 1 i x _).mono ?_
              rintro e wn ⟨rfl, hb⟩
              replace HBC := Lib.hid (pure_below HBC.out hb)
              replace HT := Lib.hid (HT.out.pure hb)
              clear hb
              go_wp2_with fail
              go_at_call 4
              refine (scone_spec _ 25 25 j 1 i x _ _ HT.out (by decide)).mono ?_
              rintro e wn ⟨rfl, hb⟩
              replace HBC := Lib.hid (pure_below HBC.out hb)
              replace HT := Lib.hid (HT.out.pure hb)
              clear hb
              go_wp2
              go_roundw
              case rel => exact ⟨x + 1, by omega, by omega, by go_num, HBC.out, HT.out⟩
              case measure => simp [intOf]; omega
            · go_wp2
              go_roundw
              case rel => exact ⟨j + 1, by omega, by omega, by go_num, pure_below HB2.out HBC.out, HT.out⟩
              case measure => simp [intOf]; omega
        · have HBC := Lib.hid (pure_below HB.out HB2.out)
          go_wp2_with fail
          go_at_call 28
          refine (of22_spec 9223372036854775807 1 i 1 _).mono ?_
          rintro e wn ⟨rfl, hb⟩
          replace HBC := Lib.hid (pure_below HBC.out hb)
          replace HT := Lib.hid (HT.out.pure hb)
          clear hb
          go_wp2_with fail
          go_at_call 3
          refine (screads_spec _ 25 25 9223372036854775807 1 i 1 _ _ HT.out (by decide)).mono ?_
          rintro e wn ⟨rfl, hb⟩
          replace HBC := Lib.hid (pure_below HBC.out hb)
          replace HT := Lib.hid (HT.out.pure hb)
          clear hb
          go_wp2_with fail
          go_at_call 28
          refine (of22_spec (-9223372036854775808) 8 i 8 _).mono ?_
          rintro e wn ⟨rfl, hb⟩
          replace HBC := Lib.hid (pure_below HBC.out hb)
          replace HT := Lib.hid (HT.out.pure hb)
          clear hb
          go_wp2_with fail
          go_at_call 3
          refine (screads_spec _ 25 25 (-9223372036854775808) 8 i 8 _ _ HT.out (by decide)).mono ?_
          rintro e wn ⟨rfl, hb⟩
          replace HBC := Lib.hid (pure_below HBC.out hb)
          replace HT := Lib.hid (HT.out.pure hb)
          clear hb
          go_wp2_with fail
          go_at_call 28
          refine (of22_spec 0 1 i 1 _).mono ?_
          rintro e wn ⟨rfl, hb⟩
          replace HBC := Lib.hid (pure_below HBC.out hb)
          replace HT := Lib.hid (HT.out.pure hb)
          clear hb
          go_wp2_with fail
          go_at_call 3
          refine (screads_spec none 0 0 0 1 i 1 [] _ (Is.nil _ _) (by decide)).mono ?_
          rintro e wn ⟨rfl, hb⟩
          replace HBC := Lib.hid (pure_below HBC.out hb)
          replace HT := Lib.hid (HT.out.pure hb)
          clear hb
          go_wp2
          go_roundw
          case rel => exact ⟨i + 1, by omega, by omega, by go_num, HBC.out, HT.out⟩
          case measure => simp [intOf]; omega
    · go_wp2_with fail
      go_at_call 26
      refine (scworks_spec _).mono ?_
      rintro e w5 ⟨rfl, hb⟩
      replace HB := Lib.hid (pure_below HB.out hb)
      clear hb
      go_wp2_with fail
      go_at_call 29
      refine (inline_spec 0 _).mono ?_
      rintro e w5 ⟨rfl, hb⟩
      rw [show inlineT 0 = true from by decide]
      replace HB := Lib.hid (pure_below HB.out hb)
      clear hb
      go_wp2
      go_ret
      exact ⟨rfl, HB.out⟩

open Go.ChangeShapes Go.WideShapes Go.ChangeAt
theorem scalarKnown_run (W : World) (_base : Nat) : Calls Try.prog 7 #[] W fun e w' => e = .returned (.bool true) ∧ Below W.heap.size W w' := scknown_spec W

set_option maxRecDepth 100000 in
theorem scalarKnown_lifted (os : Os) (started : os.Started) (H : Type) (enc : TypeId × Value → H) :
    ReturnsInHanded {} Try.checked os 7 .any (Rows.scalarKnownSpec.pre6 enc Try.prog Try.f7 Rows.scalarKnownRow.domain false) (Rows.scalarKnownSpec.post enc Try.prog Try.f7 false true false false) := by
  refine returnsInHanded_of_change (C := Try.checked) acc_own started (by kernel_rfl) Try.func7
    (ChangeSpec.witness6 (enc := enc) (C := Try.checked) false ⟨#[], #[], []⟩ 8 (by kernel_rfl) (by kernel_rfl) (by kernel_rfl) (by kernel_rfl)) ?_
  intro W base args ds gs before hval0 hW hcnd _
  have hval : ∀ (j : Nat) t v, Try.f7.params[j]? = some t → args[j]? = some v → Value.okWide Try.prog W .any base t v := hval0
  have hW' := hW
  obtain ⟨p, q, hA0, hV, rfl, hfz, hnd⟩ := hW
  have hA : DataW.TrodAll enc Try.prog W 0 (fun _ => true) true Try.f7.params.toList args.toList ds p := hA0
  rw [Try.params7] at hA
  obtain ⟨rfl, rfl, rfl⟩ := trodAll_none hA
  obtain ⟨rfl, rfl⟩ := trodVars_none hV
  clear hA0 hval0
  refine (scalarKnown_run W base).mono fun e W' ⟨he, bel⟩ => ?_
  subst he
  exact ⟨_, rfl, _, _, _, [], [], [], hW', trodAll_mk1 (shut_bool Try.underlying4 _), trodAll_mk0, rfl, bel.frame _, fun h => by cases h⟩

theorem scalarKnown_holds : Rows.ScalarKnownSaid :=
  OpenClaim.holds_of_wide 7 Try.f7 rfl rfl rfl rfl rfl rfl rfl ⟨rfl, rfl, rfl, rfl, rfl⟩ rfl rfl rfl rfl rfl (by kernel_rfl) Try.func7 (by kernel_rfl)
    (of_decide_eq_true (by kernel_rfl)) (by unfold Func.isWrapper; rw [if_neg (of_decide_eq_false (by kernel_rfl))]; exact ⟨rfl, rfl⟩)
    (fun os started H enc _ => scalarKnown_lifted os started H enc)
#print axioms scalarKnown_holds
end Go.Proofs.Ytogaifggpfipaaa
