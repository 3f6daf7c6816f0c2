/-
  Package find: the property FindKnown.
-/
import Derived.Test.YtaigofpipoimkaaFiJ
namespace Go.Proofs.Ytaigofpipoimkaa
open Go.RowKit Go.Acc
set_option maxRecDepth 100000 in
set_option maxHeartbeats 4000000 in
theorem findknown_spec (w : World) : Calls Try.prog 14 #[] w fun e w' => e = .returned (.bool true) ∧ Below w.heap.size w w' := by
  go_enter Try.func14, Try.ntmps14
  go_wp2_with fail
  go_loopw [1, 2, 3, 4] (fun t _ _ _ wr => ∃ k : Nat, k ≤ 17 ∧ t = .int .i64 k ∧ Below w.heap.size w wr) (fun t _ _ _ _ => (17 - intOf t).toNat)
  case atStart => exact ⟨0, by omega, rfl, Below.refl _ _⟩
  case round =>
    obtain ⟨i, hi, rfl, hB⟩ := hrel
    have HB := Lib.hid hB
    clear hB
    by_cases hlt : i < 17
    · have hi0 : (0 : Int) ≤ i := by omega
      have hi17 : (i : Int) < 17 := by omega
      obtain ⟨wo, rfl⟩ : ∃ wo : World, wo = wr := ⟨_, rfl⟩
      go_wp2_with fail
      go_loopw [2, 3] (fun t _ wr => ∃ k : Nat, k ≤ 268 ∧ t = .int .i64 k ∧ Below wo.heap.size wo wr) (fun t _ _ => (268 - intOf t).toNat)
      case atStart => exact ⟨0, by omega, rfl, Below.refl _ _⟩
      case round =>
        obtain ⟨j, hj, rfl, hB⟩ := hrel
        have HBC := Lib.hid hB
        clear hB
        by_cases hlt2 : j < 256
        · have hj0 : (0 : Int) ≤ j := by omega
          have hj256 : (j : Int) < 256 := by omega
          go_wp2_with fail
          go_at_call 58
          refine (example_at (i : Int) (j : Int) i (UInt8.ofNat j) _ hlt rfl (by rw [UInt8.toNat_ofNat']; omega)).mono ?_
          rintro e wn ⟨rfl, hx, hb⟩
          replace HBC := Lib.hid (pure_below HBC.out hb)
          have HT := Lib.hid hx
          clear hx hb
          go_wp2_with fail
          go_at_call 59
          refine (of25_spec 14 1 9 1 _).mono ?_
          rintro e wn ⟨rfl, hb⟩
          replace HBC := Lib.hid (pure_below HBC.out hb)
          replace HT := Lib.hid (HT.out.pure hb)
          clear hb
          go_wp2_with fail
          go_at_call 11
          refine (findkeys_spec _ 17 17 14 1 9 1 j _ _ HT.out (by decide)).mono ?_
          rintro e wn ⟨rfl, hb⟩
          replace HBC := Lib.hid (pure_below HBC.out hb)
          replace HT := Lib.hid (HT.out.pure hb)
          clear hb
          go_wp2_with fail
          go_at_call 59
          refine (of25_spec 14 1 9 1 _).mono ?_
          rintro e wn ⟨rfl, hb⟩
          replace HBC := Lib.hid (pure_below HBC.out hb)
          replace HT := Lib.hid (HT.out.pure hb)
          clear hb
          go_wp2_with fail
          go_at_call 12
          refine (findfinds_spec _ 17 17 14 1 9 1 _ [98] _ HT.out (by decide)).mono ?_
          rintro e wn ⟨rfl, hb⟩
          replace HBC := Lib.hid (pure_below HBC.out hb)
          replace HT := Lib.hid (HT.out.pure hb)
          clear hb
          go_wp2_with fail
          go_at_call 59
          refine (of25_spec 14 1 9 1 _).mono ?_
          rintro e wn ⟨rfl, hb⟩
          replace HBC := Lib.hid (pure_below HBC.out hb)
          replace HT := Lib.hid (HT.out.pure hb)
          clear hb
          go_wp2_with fail
          go_at_call 12
          refine (findfinds_spec _ 17 17 14 1 9 1 _ [97] _ HT.out (by decide)).mono ?_
          rintro e wn ⟨rfl, hb⟩
          replace HBC := Lib.hid (pure_below HBC.out hb)
          replace HT := Lib.hid (HT.out.pure hb)
          clear hb
          go_wp2
          go_roundw
          case rel => exact ⟨j + 1 + j / 20, by omega, congrArg (Value.int .i64) (by omega), HBC.out⟩
          case measure => simp [intOf]; omega
        · have hj256 : (256 : Int) ≤ j := by omega
          obtain ⟨wp, rfl⟩ : ∃ wp : World, wp = wr := ⟨_, rfl⟩
          go_wp2_with fail
          go_loopw [4] (fun t wr => ∃ k : Nat, k ≤ 9 ∧ t = .int .i64 k ∧ Below wp.heap.size wp wr) (fun t _ => (9 - intOf t).toNat)
          case atStart => exact ⟨0, by omega, rfl, Below.refl _ _⟩
          case round =>
            obtain ⟨x, hx, rfl, hB⟩ := hrel
            have HB2 := HBC
            clear HBC
            have HBC := Lib.hid hB
            clear hB
            by_cases hlt3 : x < 9
            · go_wp2_with fail
              go_at_call 58
              refine (example_at 0 97 0 97 _ (by decide) rfl rfl).mono ?_
              rintro e wn ⟨rfl, hx, hb⟩
              replace HBC := Lib.hid (pure_below HBC.out hb)
              have HT := Lib.hid hx
              clear hx hb
              go_wp2_with fail
              go_at_call 59
              refine (of25_spec i 1 9 x _).mono ?_
              rintro e wn ⟨rfl, hb⟩
              replace HBC := Lib.hid (pure_below HBC.out hb)
              replace HT := Lib.hid (HT.out.pure hb)
              clear hb
              go_wp2_with fail
              go_at_call 11
              refine (findkeys_spec _ 17 17 i 1 9 x i _ _ HT.out (by decide)).mono ?_
              rintro e wn ⟨rfl, hb⟩
              replace HBC := Lib.hid (pure_below HBC.out hb)
              replace HT := Lib.hid (HT.out.pure hb)
              clear hb
              clear HT
              go_wp2_with fail
              go_at_call 58
              refine (example_at 0 97 0 97 _ (by decide) rfl rfl).mono ?_
              rintro e wn ⟨rfl, hx, hb⟩
              replace HBC := Lib.hid (pure_below HBC.out hb)
              have HT := Lib.hid hx
              clear hx hb
              go_wp2_with fail
              go_at_call 59
              refine (of25_spec i x 9 1 _).mono ?_
              rintro e wn ⟨rfl, hb⟩
              replace HBC := Lib.hid (pure_below HBC.out hb)
              replace HT := Lib.hid (HT.out.pure hb)
              clear hb
              go_wp2_with fail
              go_at_call 11
              refine (findkeys_spec _ 17 17 i x 9 1 (-(i : Int)) _ _ HT.out (by decide)).mono ?_
              rintro e wn ⟨rfl, hb⟩
              replace HBC := Lib.hid (pure_below HBC.out hb)
              replace HT := Lib.hid (HT.out.pure hb)
              clear hb
              clear HT
              go_wp2_with fail
              go_at_call 58
              refine (example_at 0 97 0 97 _ (by decide) rfl rfl).mono ?_
              rintro e wn ⟨rfl, hx, hb⟩
              replace HBC := Lib.hid (pure_below HBC.out hb)
              have HT := Lib.hid hx
              clear hx hb
              go_wp2_with fail
              go_at_call 59
              refine (of25_spec 14 1 i x _).mono ?_
              rintro e wn ⟨rfl, hb⟩
              replace HBC := Lib.hid (pure_below HBC.out hb)
              replace HT := Lib.hid (HT.out.pure hb)
              clear hb
              go_wp2_with fail
              go_at_call 11
              refine (findkeys_spec _ 17 17 14 1 i x 0 _ _ HT.out (by decide)).mono ?_
              rintro e wn ⟨rfl, hb⟩
              replace HBC := Lib.hid (pure_below HBC.out hb)
              replace HT := Lib.hid (HT.out.pure hb)
              clear hb
              go_wp2
              go_roundw
              case rel => exact ⟨x + 1, by omega, by go_num, HBC.out⟩
              case measure => simp [intOf]; omega
            · go_wp2
              go_roundw
              case rel => exact ⟨i + 1, by omega, by go_num, pure_below (pure_below HB.out HB2.out) HBC.out⟩
              case measure => simp [intOf]; omega
    · go_wp2_with fail
      go_at_call 51
      refine (fiworks_spec _).mono ?_
      rintro e w5 ⟨rfl, hb⟩
      replace HB := Lib.hid (pure_below HB.out hb)
      clear hb
      go_wp2_with fail
      go_at_call 11
      refine (findkeys_spec none 0 0 0 0 0 0 0 [] _ (Is.nil _ _) (by decide)).mono ?_
      rintro e wn ⟨rfl, hb⟩
      replace HB := Lib.hid (pure_below HB.out hb)
      clear hb
      go_wp2_with fail
      go_at_call 59
      refine (of25_spec 0 1 9 1 _).mono ?_
      rintro e wn ⟨rfl, hb⟩
      replace HB := Lib.hid (pure_below HB.out hb)
      clear hb
      go_wp2_with fail
      go_at_call 12
      refine (findfinds_spec none 0 0 0 1 9 1 [] [] _ (Is.nil _ _) (by decide)).mono ?_
      rintro e wn ⟨rfl, hb⟩
      replace HB := Lib.hid (pure_below HB.out hb)
      clear hb
      go_wp2
      go_ret
      exact ⟨rfl, HB.out⟩

open Go.ChangeShapes Go.WideShapes Go.ChangeAt
theorem findKnown_run (W : World) (_base : Nat) : Calls Try.prog 14 #[] W fun e w' => e = .returned (.bool true) ∧ Below W.heap.size W w' := findknown_spec W

set_option maxRecDepth 100000 in
theorem findKnown_lifted (os : Os) (started : os.Started) (H : Type) (enc : TypeId × Value → H) :
    ReturnsInHanded {} Try.checked os 14 .any (Rows.findKnownSpec.pre6 enc Try.prog Try.f14 Rows.findKnownRow.domain false) (Rows.findKnownSpec.post enc Try.prog Try.f14 false true false false) := by
  refine returnsInHanded_of_change (C := Try.checked) acc_own started (by kernel_rfl) Try.func14
    (ChangeSpec.witness6 (enc := enc) (C := Try.checked) false ⟨#[], #[], []⟩ 8 (by kernel_rfl) (by kernel_rfl) (by kernel_rfl) (by kernel_rfl)) ?_
  intro W base args ds gs before hval0 hW hcnd _
  have hval : ∀ (j : Nat) t v, Try.f14.params[j]? = some t → args[j]? = some v → Value.okWide Try.prog W .any base t v := hval0
  have hW' := hW
  obtain ⟨p, q, hA0, hV, rfl, hfz, hnd⟩ := hW
  have hA : DataW.TrodAll enc Try.prog W 0 (fun _ => true) true Try.f14.params.toList args.toList ds p := hA0
  rw [Try.params14] at hA
  obtain ⟨rfl, rfl, rfl⟩ := trodAll_none hA
  obtain ⟨rfl, rfl⟩ := trodVars_none hV
  clear hA0 hval0
  refine (findKnown_run W base).mono fun e W' ⟨he, bel⟩ => ?_
  subst he
  exact ⟨_, rfl, _, _, _, [], [], [], hW', trodAll_mk1 (shut_bool Try.underlying4 _), trodAll_mk0, rfl, bel.frame _, fun h => by cases h⟩

theorem findKnown_holds : Rows.FindKnownSaid :=
  OpenClaim.holds_of_wide 14 Try.f14 rfl rfl rfl rfl rfl rfl rfl ⟨rfl, rfl, rfl, rfl, rfl⟩ rfl rfl rfl rfl rfl (by kernel_rfl) Try.func14 (by kernel_rfl)
    (of_decide_eq_true (by kernel_rfl)) (by unfold Func.isWrapper; rw [if_neg (of_decide_eq_false (by kernel_rfl))]; exact ⟨rfl, rfl⟩)
    (fun os started H enc _ => findKnown_lifted os started H enc)
#print axioms findKnown_holds
end Go.Proofs.Ytaigofpipoimkaa
