/-
  Package text: the property TextKnown.
-/
import Derived.Test.YtdoagpophikgjaaTextJ
import Derived.Test.YtdoagpophikgjaaTextM
namespace Go.Proofs.Ytdoagpophikgjaa
open Go.RowKit Go.Acc
def kb23 : List UInt8 := [1, 97, 0, 2, 4, 0, 5, 255, 255, 0, 255, 255, 255, 255, 255, 255, 255, 255, 2, 0, 0, 0, 0, 0, 0, 0, 8, 9, 0]
def ends23 : List Nat := [0, 1, 2, 254, 255, 256, 65535, 4294967295, 9223372036854775807, 9223372036854775808, 18446744073709551615]
theorem ends23_lt : ∀ u ∈ ends23, (u : Int) < 18446744073709551616 := by decide
def uc (x : Nat) : List Value := [.int .u64 x]
theorem uc_at {w : World} {g n k : Nat} {l : List Nat} (h : Is uc w (some ⟨g, 0, none⟩) n l) (hk : k < n) : ∃ hk : k < l.length, w.cell? ⟨g, k, none⟩ = some (.int .u64 (l[k] : Nat)) := by
  obtain ⟨b, off, e, hk', hc⟩ := h.at_ (fun _ => rfl) (sz := 1) (by omega) hk
  injection e with e
  injection e with e1 e2
  subst e1 e2
  have := hc 0 (by omega)
  rw [Nat.mul_one, Nat.add_zero, Nat.zero_add] at this
  exact ⟨hk', this⟩
theorem is_blk_k {α : Type} {f : α → List Value} {w : World} {g n : Nat} {t : TypeId} {cs : Array Value} (l : List α) (hB : Blk w g t cs) (hn : l.length = n) (h : cs.toList = l.flatMap f) : Is f w (some ⟨g, 0, none⟩) n l := by
  refine ⟨hn, fun j u hu => ⟨_, _, rfl, ?_⟩⟩
  rw [Nat.zero_add, hB.cell j]
  rw [← h] at hu
  simpa using hu
set_option maxRecDepth 100000 in
set_option maxHeartbeats 4000000 in
theorem textknown_spec (w : World) : Calls Try.prog 13 #[] w fun e w' => e = .returned (.bool true) ∧ Below w.heap.size w w' := by
  go_enter Try.func13, Try.ntmps13
  go_wp2_with fail
  go_loopw [2, 3, 4] (fun t _ _ wr => ∃ k : Int, -1 ≤ k ∧ k ≤ 38 ∧ t = .int .i64 k ∧ Below w.heap.size w wr ∧ IsB wr (some ⟨w.heap.size, 0, none⟩) 29 kb23) (fun t _ _ _ => (38 - intOf t).toNat)
  case atStart =>
    refine ⟨-1, by omega, by omega, rfl, (Below.refl _ _).alloc (Nat.le_refl _) _, ?_⟩
    exact isb_lit w _ kb23 29 rfl rfl
  case round =>
    obtain ⟨i, hi0, hi, rfl, hB, hT⟩ := hrel
    have HB := Lib.hid hB
    have HT := Lib.hid hT
    clear hB hT
    by_cases hlt : i < 38
    · obtain ⟨wo, rfl⟩ : ∃ wo : World, wo = wr := ⟨_, rfl⟩
      go_wp2_with fail
      go_loopw [3, 4] (fun t _ wr => ∃ k : Int, -1 ≤ k ∧ k ≤ 31 ∧ t = .int .i64 k ∧ Below wo.heap.size wo wr ∧ IsB wr (some ⟨w.heap.size, 0, none⟩) 29 kb23) (fun t _ _ => (31 - intOf t).toNat)
      case atStart => exact ⟨-1, by omega, by omega, rfl, Below.refl _ _, HT.out⟩
      case round =>
        obtain ⟨j, hj0, hj, rfl, hB, hT⟩ := hrel
        have HB2 := Lib.hid hB
        replace HT := Lib.hid hT
        clear hB hT
        by_cases hlt2 : j < 31
        · obtain ⟨wp, rfl⟩ : ∃ wp : World, wp = wr := ⟨_, rfl⟩
          go_wp2_with fail
          go_loopw [4] (fun t wr => ∃ k : Int, 0 ≤ k ∧ k ≤ 9 ∧ t = .int .i64 k ∧ Below wp.heap.size wp wr ∧ IsB wr (some ⟨w.heap.size, 0, none⟩) 29 kb23) (fun t _ => (9 - intOf t).toNat)
          case atStart => exact ⟨0, by omega, by omega, rfl, Below.refl _ _, HT.out⟩
          case round =>
            obtain ⟨x, hx0, hx, rfl, hB, hT⟩ := hrel
            have HBC := Lib.hid hB
            replace HT := Lib.hid hT
            clear hB hT
            by_cases hlt3 : x < 9
            · go_wp2_with fail
              go_at_call 47
              refine (of23_spec j 1 i x _).mono ?_
              rintro e wn ⟨rfl, hb⟩
              replace HBC := Lib.hid (pure_below HBC.out hb)
              replace HT := Lib.hid (HT.out.pure hb)
              clear hb
              go_wp2_with fail
              go_at_call 9
              refine (textreads_spec _ 29 29 j 1 i x _ _ HT.out (by decide)).mono ?_
              rintro e wn ⟨rfl, hb⟩
              replace HBC := Lib.hid (pure_below HBC.out hb)
              replace HT := Lib.hid (HT.out.pure hb)
              clear hb
              go_wp2_with fail
              go_at_call 47
              refine (of23_spec j x i 1 _).mono ?_
              rintro e wn ⟨rfl, hb⟩
              replace HBC := Lib.hid (pure_below HBC.out hb)
              replace HT := Lib.hid (HT.out.pure hb)
              clear hb
              go_wp2_with fail
              go_at_call 9
              refine (textreads_spec _ 29 29 j x i 1 _ _ HT.out (by decide)).mono ?_
              rintro e wn ⟨rfl, hb⟩
              replace HBC := Lib.hid (pure_below HBC.out hb)
              replace HT := Lib.hid (HT.out.pure hb)
              clear hb
              go_wp2
              go_roundw
              case rel => exact ⟨x + 1, by omega, by omega, by go_num, HBC.out, HT.out⟩
              case measure => simp [intOf]; omega
            · go_wp2
              go_roundw
              case rel => exact ⟨j + 1, by omega, by omega, by go_num, pure_below HB2.out HBC.out, HT.out⟩
              case measure => simp [intOf]; omega
        · go_wp2
          go_roundw
          case rel => exact ⟨i + 1, by omega, by omega, by go_num, pure_below HB.out HB2.out, HT.out⟩
          case measure => simp [intOf]; omega
    · clear HT
      obtain ⟨wo, rfl⟩ : ∃ wo : World, wo = wr := ⟨_, rfl⟩
      go_wp2_with fail
      have HE := Lib.hid (is_blk_k (w := wo.alloc (.cells #[.int .u64 0, .int .u64 1, .int .u64 2, .int .u64 254, .int .u64 255, .int .u64 256, .int .u64 65535, .int .u64 4294967295, .int .u64 9223372036854775807, .int .u64 9223372036854775808, .int .u64 18446744073709551615] 49)) (g := wo.heap.size) (n := 11) (f := uc) ends23 (Blk.new wo 49 _) rfl rfl)
      have HB0 := Lib.hid (HB.out.alloc HB.out.size (.cells #[.int .u64 0, .int .u64 1, .int .u64 2, .int .u64 254, .int .u64 255, .int .u64 256, .int .u64 65535, .int .u64 4294967295, .int .u64 9223372036854775807, .int .u64 9223372036854775808, .int .u64 18446744073709551615] 49))
      go_loopw [6, 7] (fun t _ wr => ∃ k : Nat, k ≤ 11 ∧ t = .int .i64 k ∧ Below w.heap.size w wr ∧ Is uc wr (some ⟨wo.heap.size, 0, none⟩) 11 ends23) (fun t _ _ => 11 - (intOf t).toNat)
      case atStart => exact ⟨0, by omega, rfl, HB0.out, HE.out⟩
      case round =>
        obtain ⟨i', hi', rfl, hB, hT⟩ := hrel
        replace HB := Lib.hid hB
        have HT := Lib.hid hT
        clear hB hT HB0 HE
        by_cases hlt2 : i' < 11
        · have hi0' : (0 : Int) ≤ i' := by omega
          have hi11 : (i' : Int) < 11 := by omega
          obtain ⟨wp, rfl⟩ : ∃ wp : World, wp = wr := ⟨_, rfl⟩
          go_wp2_with fail
          go_loopw [7] (fun t wr => ∃ k : Int, 0 ≤ k ∧ k ≤ 4 ∧ t = .int .i64 k ∧ Below wp.heap.size wp wr ∧ Is uc wr (some ⟨wo.heap.size, 0, none⟩) 11 ends23) (fun t _ => (4 - intOf t).toNat)
          case atStart => exact ⟨0, by omega, by omega, rfl, Below.refl _ _, HT.out⟩
          case round =>
            obtain ⟨x, hx0, hx, rfl, hB, hT⟩ := hrel
            have HBC := Lib.hid hB
            replace HT := Lib.hid hT
            clear hB hT
            by_cases hlt3 : x < 4
            · obtain ⟨hkl, hu⟩ := uc_at HT.out hlt2
              have hub := ends23_lt ends23[i'] (List.getElem_mem hkl)
              generalize ends23[i'] = u at hu hub
              have HUB := Shut.mk hub
              have HL3 := Lib.hid (isb_lit wr #[.int .u8 1, .int .u8 0, .int .u8 3] [1, 0, 3] 3 rfl rfl)
              have hu2 := cell_pure ((Below.refl wr.heap.size wr).alloc (Nat.le_refl _) (.cells #[.int .u8 1, .int .u8 0, .int .u8 3] 5)) hu
              replace HBC := Lib.hid (HBC.out.alloc HBC.out.size (.cells #[.int .u8 1, .int .u8 0, .int .u8 3] 5))
              replace HT := Lib.hid (HT.out.alloc (.cells #[.int .u8 1, .int .u8 0, .int .u8 3] 5))
              clear hub
              go_wp2_with fail
              go_at_call 12
              refine (textlengths_spec _ 3 3 x u x _ _ HL3.out (by decide) HUB.out).mono ?_
              rintro e wn ⟨rfl, hb⟩
              replace HBC := Lib.hid (pure_below HBC.out hb)
              replace HT := Lib.hid (HT.out.pure hb)
              have hu3 := cell_pure hb hu2
              clear hb HL3 hu2 hu
              go_wp2_with fail
              go_at_call 12
              refine (textlengths_spec none 0 0 x u 0 [] _ (Is.nil _ _) (by decide) HUB.out).mono ?_
              rintro e wn ⟨rfl, hb⟩
              replace HBC := Lib.hid (pure_below HBC.out hb)
              replace HT := Lib.hid (HT.out.pure hb)
              clear hb hu3
              go_wp2
              go_roundw
              case rel => exact ⟨x + 1, by omega, by omega, by go_num, HBC.out, HT.out⟩
              case measure => simp [intOf]; omega
            · go_wp2
              go_roundw
              case rel => exact ⟨i' + 1, by omega, by go_num, pure_below HB.out HBC.out, HT.out⟩
              case measure => simp [intOf]; omega
        · clear HT
          go_wp2_with fail
          go_at_call 46
          refine (textworks_spec _).mono ?_
          rintro e w5 ⟨rfl, hb⟩
          replace HB := Lib.hid (pure_below HB.out hb)
          clear hb
          go_wp2_with fail
          go_at_call 47
          refine (of23_spec 0 1 4 1 _).mono ?_
          rintro e w5 ⟨rfl, hb⟩
          replace HB := Lib.hid (pure_below HB.out hb)
          clear hb
          go_wp2_with fail
          go_at_call 9
          refine (textreads_spec none 0 0 0 1 4 1 [] _ (Is.nil _ _) (by decide)).mono ?_
          rintro e w5 ⟨rfl, hb⟩
          replace HB := Lib.hid (pure_below HB.out hb)
          clear hb
          go_wp2
          go_ret
          exact ⟨rfl, HB.out⟩

open Go.ChangeShapes Go.WideShapes Go.ChangeAt
theorem textKnown_run (W : World) (_base : Nat) : Calls Try.prog 13 #[] W fun e w' => e = .returned (.bool true) ∧ Below W.heap.size W w' := textknown_spec W

set_option maxRecDepth 100000 in
theorem textKnown_lifted (os : Os) (started : os.Started) (H : Type) (enc : TypeId × Value → H) :
    ReturnsInHanded {} Try.checked os 13 .any (Rows.textKnownSpec.pre6 enc Try.prog Try.f13 Rows.textKnownRow.domain false) (Rows.textKnownSpec.post enc Try.prog Try.f13 false true false false) := by
  refine returnsInHanded_of_change (C := Try.checked) acc_own started (by kernel_rfl) Try.func13
    (ChangeSpec.witness6 (enc := enc) (C := Try.checked) false ⟨#[], #[], []⟩ 8 (by kernel_rfl) (by kernel_rfl) (by kernel_rfl) (by kernel_rfl)) ?_
  intro W base args ds gs before hval0 hW hcnd _
  have hval : ∀ (j : Nat) t v, Try.f13.params[j]? = some t → args[j]? = some v → Value.okWide Try.prog W .any base t v := hval0
  have hW' := hW
  obtain ⟨p, q, hA0, hV, rfl, hfz, hnd⟩ := hW
  have hA : DataW.TrodAll enc Try.prog W 0 (fun _ => true) true Try.f13.params.toList args.toList ds p := hA0
  rw [Try.params13] at hA
  obtain ⟨rfl, rfl, rfl⟩ := trodAll_none hA
  obtain ⟨rfl, rfl⟩ := trodVars_none hV
  clear hA0 hval0
  refine (textKnown_run W base).mono fun e W' ⟨he, bel⟩ => ?_
  subst he
  exact ⟨_, rfl, _, _, _, [], [], [], hW', trodAll_mk1 (shut_bool Try.underlying4 _), trodAll_mk0, rfl, bel.frame _, fun h => by cases h⟩

theorem textKnown_holds : Rows.TextKnownSaid :=
  OpenClaim.holds_of_wide 13 Try.f13 rfl rfl rfl rfl rfl rfl rfl ⟨rfl, rfl, rfl, rfl, rfl⟩ rfl rfl rfl rfl rfl (by kernel_rfl) Try.func13 (by kernel_rfl)
    (of_decide_eq_true (by kernel_rfl)) (by unfold Func.isWrapper; rw [if_neg (of_decide_eq_false (by kernel_rfl))]; exact ⟨rfl, rfl⟩)
    (fun os started H enc _ => textKnown_lifted os started H enc)
#print axioms textKnown_holds
end Go.Proofs.Ytdoagpophikgjaa
