/-
  StackKnown returns true.
-/
import Derived.Test.YtiambljlgmnhaaaStackM
import Derived.Test.YtiambljlgmnhaaaStackRowA
namespace Go.Proofs.Ytiambljlgmnhaaa
open Go.RowKit Go.Acc

theorem known_do (W : World) (x : Int) (x1 : -9223372036854775808 ≤ x) (x2 : x ≤ 9223372036854775807) : ∀ k, k < 4 →
    DoAt ((W.alloc (.cells #[.int .i64 0, .int .i64 0, .int .u64 0, .int .i64 0, .int .i64 0, .int .u64 0] 49)).alloc (.cells #[.int .i64 0, .int .i64 0, .slice (some ⟨W.heap.size, 0, none⟩) 2 2, .int .i64 3, .int .i64 x, .slice none 0 0, .int .i64 2, .int .i64 x, .slice none 0 0, .int .i64 3, .int .i64 x, .slice none 0 0] 29)).drew (some ⟨W.heap.size + 1, 0, none⟩) k := by
  intro k hk
  have hb := Blk.new (W.alloc (.cells #[.int .i64 0, .int .i64 0, .int .u64 0, .int .i64 0, .int .i64 0, .int .u64 0] 49)) 29 #[.int .i64 0, .int .i64 0, .slice (some ⟨W.heap.size, 0, none⟩) 2 2, .int .i64 3, .int .i64 x, .slice none 0 0, .int .i64 2, .int .i64 x, .slice none 0 0, .int .i64 3, .int .i64 x, .slice none 0 0]
  have hv := (isv_lit W [(0, 0, 0), (0, 0, 0)]).alloc (.cells #[.int .i64 0, .int .i64 0, .slice (some ⟨W.heap.size, 0, none⟩) 2 2, .int .i64 3, .int .i64 x, .slice none 0 0, .int .i64 2, .int .i64 x, .slice none 0 0, .int .i64 3, .int .i64 x, .slice none 0 0] 29)
  have hs : (W.alloc (.cells #[.int .i64 0, .int .i64 0, .int .u64 0, .int .i64 0, .int .i64 0, .int .u64 0] 49)).heap.size = W.heap.size + 1 := by simp
  rw [hs] at hb
  match k, hk with
  | 0, _ => exact ⟨_, 0, 0, 0, some ⟨W.heap.size, 0, none⟩, 2, 2, [(0, 0, 0), (0, 0, 0)], rfl, hb.cell 0, hb.cell 1, hb.cell 2, hv, by omega, by omega, by omega, by omega⟩
  | 1, _ => exact ⟨_, 0, 3, x, none, 0, 0, [], rfl, hb.cell 3, hb.cell 4, hb.cell 5, Is.nil _ _, by omega, by omega, x1, x2⟩
  | 2, _ => exact ⟨_, 0, 2, x, none, 0, 0, [], rfl, hb.cell 6, hb.cell 7, hb.cell 8, Is.nil _ _, by omega, by omega, x1, x2⟩
  | 3, _ => exact ⟨_, 0, 3, x, none, 0, 0, [], rfl, hb.cell 9, hb.cell 10, hb.cell 11, Is.nil _ _, by omega, by omega, x1, x2⟩

set_option maxHeartbeats 400000 in
theorem none_nil (w : World) : Calls Try.prog 25 #[.pointer none] w fun e w' => e = .returned (.bool true) ∧ w = w' := by
  go_enter Try.func25, Try.ntmps25
  go_wp2
  go_ret
  exact ⟨rfl, rfl⟩
set_option maxHeartbeats 400000 in
theorem none_zero (b : Nat) (w : World) (h : w.cell? ⟨b, 1, none⟩ = some (.bool false)) : Calls Try.prog 25 #[.pointer (some ⟨b, 0, none⟩)] w fun e w' => e = .returned (.bool true) ∧ w = w' := by
  go_enter Try.func25, Try.ntmps25
  go_wp2
  go_ret
  exact ⟨rfl, rfl⟩
/-- A stack that is nil or zero. -/
def Dead (p : Option Addr) (w : World) : Prop := p = none ∨ ∃ b, p = some ⟨b, 0, none⟩ ∧ Blk w b 57 #[.slice none 0 0, .bool false]
theorem Dead.pure {p : Option Addr} {w w' : World} (h : Dead p w) (hb : Below w.heap.size w w') : Dead p w' := by
  rcases h with h | ⟨b, e, h⟩
  · exact .inl h
  · exact .inr ⟨b, e, h.pure hb⟩
theorem none_dead (p : Option Addr) (w : World) (h : Dead p w) : Calls Try.prog 25 #[.pointer p] w fun e w' => e = .returned (.bool true) ∧ w = w' := by
  rcases h with rfl | ⟨b, rfl, h⟩
  · exact none_nil w
  · exact none_zero b w (h.cell 1)
set_option maxHeartbeats 400000 in
theorem len_dead (p : Option Addr) (w : World) (h : Dead p w) : Calls Try.prog 21 #[.pointer p] w fun e w' => e = .returned (.int .i64 0) ∧ w = w' := by
  have H := Lib.hid h
  clear h
  go_enter Try.func21, Try.ntmps21
  go_wp2_with (go_at_call 25; refine (none_dead p _ H.out).mono ?_; rintro e w' ⟨rfl, rfl⟩)
  go_ret
  exact ⟨rfl, rfl⟩
set_option maxHeartbeats 400000 in
theorem from_dead (p : Option Addr) (s : Int) (w : World) (h : Dead p w) : Calls Try.prog 14 #[.pointer p, .int .i64 s] w fun e w' => e = .returned (.tuple #[.slice none 0 0, .int .i64 1]) ∧ w = w' := by
  have H := Lib.hid h
  clear h
  go_enter Try.func14, Try.ntmps14
  go_wp2_with (go_at_call 25; refine (none_dead p _ H.out).mono ?_; rintro e w' ⟨rfl, rfl⟩)
  go_ret2
  exact ⟨rfl, rfl⟩
set_option maxHeartbeats 400000 in
theorem pop_dead (p : Option Addr) (w : World) (h : Dead p w) : Calls Try.prog 12 #[.pointer p, .int .i64 0] w fun e w' => e = .returned (.tuple #[.slice none 0 0, .int .i64 1]) ∧ w = w' := by
  have H := Lib.hid h
  clear h
  go_enter Try.func12, Try.ntmps12
  go_wp2_with (first | (go_at_call 21; refine (len_dead p _ H.out).mono ?_; rintro e w' ⟨rfl, rfl⟩) | (go_at_call 14; refine (from_dead p _ _ H.out).mono ?_; rintro e w' ⟨rfl, rfl⟩))
  go_ret2
  exact ⟨rfl, rfl⟩
set_option maxHeartbeats 400000 in
theorem push_dead (p : Option Addr) (A : Option Addr) (n c : Nat) (w : World) (h : Dead p w) : Calls Try.prog 17 #[.pointer p, .slice A n c] w fun e w' => e = .returned (.int .i64 1) ∧ w = w' := by
  have H := Lib.hid h
  clear h
  go_enter Try.func17, Try.ntmps17
  go_wp2_with (go_at_call 25; refine (none_dead p _ H.out).mono ?_; rintro e w' ⟨rfl, rfl⟩)
  go_ret
  exact ⟨rfl, rfl⟩

theorem made_vc (n : Nat) : (madeCells #[.int .i64 0, .int .i64 0, .int .u64 0] (n * 3)).toList = (List.replicate n ((0, 0, 0) : V3)).flatMap vc := by
  apply List.ext_getElem?
  intro j
  by_cases hj : j < n * 3
  · have h1 := fm_at vc_len (List.replicate n ((0, 0, 0) : V3)) (j / 3) (j % 3) (by simp; omega) (by omega)
    rw [show j / 3 * 3 + j % 3 = j by omega, List.getElem_replicate] at h1
    rw [h1]
    have : j % 3 = 0 ∨ j % 3 = 1 ∨ j % 3 = 2 := by omega
    rcases this with e | e | e <;> simp [madeCells, hj, e, vc]
  · rw [List.getElem?_eq_none (by simp [madeCells]; omega), List.getElem?_eq_none (by rw [fm_length vc_len]; simp; omega)]
theorem make_v (n : Nat) (hn : n ≤ 65536) : ∃ Z : Array Value, Z.toList = (List.replicate n ((0, 0, 0) : V3)).flatMap vc ∧ ∀ W : World, (Instr.makeSlice 27 (.int .i64 (n : Int)) (.int .i64 (n : Int))).run Try.prog W = .ok (.slice (some ⟨W.heap.size, 0, none⟩) n n) (W.alloc (.cells Z 49)) := by
  obtain ⟨i, hi, hz, hs, hb⟩ := info_parts info_v
  refine ⟨_, made_vc n, fun W => ?_⟩
  have hr := run_make (P := Try.prog) W 27 49 i _ Try.underlying27 hi hz .i64 .i64 n n (by omega) (Int.le_refl _) (by rw [hb]; omega) (by omega)
  simp only [Int.toNat_natCast, hs] at hr
  exact hr
theorem isv_arr (W : World) (Z : Array Value) (l : List V3) (h : Z.toList = l.flatMap vc) : IsV (W.alloc (.cells Z 49)) (some ⟨W.heap.size, 0, none⟩) l.length l := by
  refine ⟨rfl, fun j u hu => ⟨_, _, rfl, ?_⟩⟩
  rw [Nat.zero_add, (Blk.new W _ _).cell j]
  rw [← h] at hu
  simpa using hu

set_option maxRecDepth 100000 in
set_option maxHeartbeats 4000000 in
theorem known_spec (w : World) : Calls Try.prog 8 #[] w fun e w' => e = .returned (.bool true) ∧ Below w.heap.size w w' := by
  go_enter Try.func8, Try.ntmps8
  go_wp2_with fail
  go_loopw [2] (fun t wr => ∃ k : Nat, k ≤ 7 ∧ t = .int .i64 k ∧ Below w.heap.size w wr ∧ (∀ j, j < 7 → ∃ x, wr.cell? ⟨w.heap.size, j, none⟩ = some (.int .i64 x) ∧ -9223372036854775808 ≤ x ∧ x ≤ 9223372036854775807)) (fun t _ => 7 - (intOf t).toNat)
  case atStart =>
    refine ⟨0, by omega, rfl, (Below.refl _ _).alloc (Nat.le_refl _) _, fun j hj => ?_⟩
    have hb := Blk.new w 3 #[.int .i64 (-9223372036854775808), .int .i64 (-1), .int .i64 0, .int .i64 1, .int .i64 2, .int .i64 3, .int .i64 9223372036854775807]
    have hc := hb.cell j
    match j, hj with
    | 0, _ => exact ⟨_, hc, by omega, by omega⟩
    | 1, _ => exact ⟨_, hc, by omega, by omega⟩
    | 2, _ => exact ⟨_, hc, by omega, by omega⟩
    | 3, _ => exact ⟨_, hc, by omega, by omega⟩
    | 4, _ => exact ⟨_, hc, by omega, by omega⟩
    | 5, _ => exact ⟨_, hc, by omega, by omega⟩
    | 6, _ => exact ⟨_, hc, by omega, by omega⟩
  case round =>
    obtain ⟨k, hk, rfl, hB, hc⟩ := hrel
    by_cases hlt : k < 7
    · obtain ⟨x, hx, x1, x2⟩ := hc k hlt
      have HC := Lib.hid hc
      clear hc
      have hmk : ∀ W : World, (Instr.makeSlice 27 (.int .i64 2) (.int .i64 2)).run Try.prog W = .ok (.slice (some ⟨W.heap.size, 0, none⟩) 2 2) (W.alloc (.cells #[.int .i64 0, .int .i64 0, .int .u64 0, .int .i64 0, .int .i64 0, .int .u64 0] 49)) := fun _ => by kernel_rfl
      have h0k : (0 : Int) ≤ k := by omega
      have hk7 : (k : Int) < 7 := by omega
      have HB := Lib.hid hB
      clear hB
      go_wp2_with fail
      go_region_held3 (fun w' => w'.cell? ⟨w.heap.size, k, none⟩ = some (.int .i64 x)) (first | assumption | exact cell_pure ((Below.refl _ _).alloc (Nat.le_refl _) _).drew hx | exact cell_pure (((Below.refl _ _).alloc (Nat.le_refl _) _).alloc (by simp) _).drew hx)
        (first | (go_at_call 3; refine (plays_spec _ 4 4 _ (known_do wr x x1 x2) (by omega)).mono ?_; rintro e w5 ⟨rfl, hb5⟩; have HB5 := Lib.hid (pure_trans ((((Below.refl _ _).alloc (Nat.le_refl _) _).alloc (by simp) _).drew) hb5); have x5 := cell_pure HB5.out hx; clear hb5))
      clear hmk
      go_wp2
      go_roundw
      case rel => exact ⟨k + 1, by omega, by go_num, pure_below HB.out HB5.out, fun j hj => by obtain ⟨y, h1, h2⟩ := HC.out j hj; exact ⟨y, cell_pure HB5.out h1, h2⟩⟩
      case measure => simp [intOf]; omega
    · have HB := Lib.hid hB
      clear hB hc
      go_wp2_with fail
      refine (new_spec _).mono ?_
      rintro e w1 ⟨b, rfl, hS, hb1⟩
      have hBS : Below w.heap.size w w1 ∧ w.heap.size ≤ b := ⟨pure_below HB.out hb1, by have := hS.ge; have := HB.out.size; omega⟩
      have HS := Lib.hid (hS.rebase HB.out.size)
      have HBS := Lib.hid hBS
      clear hS hb1 hBS
      go_wp2_with fail
      go_loopw [4] (fun t wr => ∃ k : Nat, k ≤ 16 ∧ t = .int .i64 k ∧ Below w.heap.size w wr ∧ ∃ g, Stk wr w.heap.size b g (List.replicate (4096 * k) (0, 0, 0))) (fun t _ => 16 - (intOf t).toNat)
      case atStart => exact ⟨0, by omega, rfl, HBS.out.1, none, HS.out⟩
      case round =>
        obtain ⟨k, hk, rfl, hB, g, hS⟩ := hrel
        by_cases hlt : k < 16
        · have HB := Lib.hid hB
          have HS := Lib.hid hS
          clear hB hS
          obtain ⟨Z, hZ, hmk0⟩ := make_v 4096 (by omega)
          have hmk : ∀ W : World, (Instr.makeSlice 27 (.int .i64 4096) (.int .i64 4096)).run Try.prog W = .ok (.slice (some ⟨W.heap.size, 0, none⟩) 4096 4096) (W.alloc (.cells Z 49)) := hmk0
          clear hmk0
          have HZ := Lib.hid hZ
          have hl1 : (List.replicate (4096 * k) ((0, 0, 0) : V3)).length + (List.replicate 4096 ((0, 0, 0) : V3)).length ≤ 65536 := by rw [List.length_replicate, List.length_replicate]; omega
          have hsz := HB.out.size
          clear hZ
          go_wp2_with fail
          have hz := isv_arr wr Z (List.replicate 4096 (0, 0, 0)) HZ.out
          rw [List.length_replicate] at hz
          refine (push_spec _ b g _ (List.replicate 4096 (0, 0, 0)) _ 4096 4096 _ (HS.out.pure ((Below.refl _ _).alloc (Nat.le_refl _) _)) hz hl1 (by simp; omega)).mono ?_
          rintro e w5 ⟨rfl, g', hS5, hat5, hf5⟩
          have hge := HS.out.ge
          have hB5 : Below w.heap.size w w5 := below_fr (pure_below HB.out ((Below.refl _ _).alloc (Nat.le_refl _) _)) hf5 (by
            rintro k' (e | e)
            · omega
            · exact (hge.2.2 k' e.symm).1)
          rw [List.replicate_append_replicate, show 4096 * k + 4096 = 4096 * (k + 1) by omega] at hS5
          have HS5 := Lib.hid hS5
          have HB5 := Lib.hid hB5
          clear hS5 hB5 hf5 hat5 hmk hge hz
          go_wp2
          go_roundw
          case rel => exact ⟨k + 1, by omega, by go_num, HB5.out, g', HS5.out⟩
          case measure => simp [intOf]; omega
        · obtain rfl : k = 16 := by omega
          have HB := Lib.hid hB
          have HS := Lib.hid hS
          have hl6 : (List.replicate (4096 * 16) ((0, 0, 0) : V3)).length = 65536 := by rw [List.length_replicate]
          have HL6 := Lib.hid hl6
          clear hB hS hl6
          generalize List.replicate (4096 * 16) ((0, 0, 0) : V3) = l6 at HS HL6
          go_wp2_with fail
          refine (push_no _ b g l6 _ 1 1 _ (HS.out.pure ((Below.refl _ _).alloc (Nat.le_refl _) _)) (by rw [HL6.out]; omega)).mono ?_
          rintro e w' ⟨rfl, rfl⟩
          have HB1 := Lib.hid (pure_below HB.out ((Below.refl wr.heap.size wr).alloc (Nat.le_refl _) (.cells #[.int .i64 0, .int .i64 0, .int .u64 0] 49)))
          have HS1 := Lib.hid (HS.out.pure ((Below.refl wr.heap.size wr).alloc (Nat.le_refl _) (.cells #[.int .i64 0, .int .i64 0, .int .u64 0] 49)))
          go_wp2_with fail
          refine (push_spec _ b g l6 [] none 0 0 _ HS1.out (Is.nil _ _) (by rw [HL6.out]; simp) HB1.out.size).mono ?_
          rw [List.append_nil]
          rintro e w5 ⟨rfl, g', hS5, hat5, hf5⟩
          have hge := HS1.out.ge
          have hB5 : Below w.heap.size w w5 := below_fr HB1.out hf5 (by
            rintro k' (e | e)
            · omega
            · exact (hge.2.2 k' e.symm).1)
          have HS5 := Lib.hid hS5
          have HB5 := Lib.hid hB5
          clear hS5 hB5 hf5 hat5 hge
          go_wp2_with fail
          refine (len_spec _ b g' l6 _ HS5.out).mono ?_
          rw [HL6.out]
          rintro e w' ⟨rfl, rfl⟩
          go_wp2_with fail
          clear HS1 HS5 HL6 HS
          go_loopw [5, 6] (fun p t wr => ∃ (k : Nat) (q : Option Addr), k ≤ 2 ∧ p = .pointer q ∧ t = .int .i64 k ∧ Below w.heap.size w wr ∧ Dead q wr) (fun _ t _ => 2 - (intOf t).toNat)
          case atStart => exact ⟨0, none, by omega, rfl, rfl, HB5.out, .inl rfl⟩
          case round =>
            obtain ⟨k, q, hk, rfl, rfl, hB, hD⟩ := hrel
            have HB := Lib.hid hB
            have HD := Lib.hid hD
            clear hB hD
            by_cases hlt : k < 2
            · go_wp2_with fail
              refine (pop_dead q _ HD.out).mono ?_
              rintro e w' ⟨rfl, rfl⟩
              go_wp2_with fail
              refine (from_dead q _ _ HD.out).mono ?_
              rintro e w' ⟨rfl, rfl⟩
              go_wp2_with fail
              refine (are_yes (Is.nil _ none) (Is.nil _ none) (by decide)).mono ?_
              rintro e w6 ⟨rfl, hb6⟩
              have HB6 := Lib.hid (pure_below HB.out hb6)
              have HD6 := Lib.hid (HD.out.pure hb6)
              clear hb6
              go_wp2_with fail
              refine (are_yes (Is.nil _ none) (Is.nil _ none) (by decide)).mono ?_
              rintro e w7 ⟨rfl, hb7⟩
              have HB7 := Lib.hid (pure_below HB6.out hb7)
              have HD7 := Lib.hid (HD6.out.pure hb7)
              clear hb7
              go_wp2_with fail
              refine (push_dead q _ _ _ _ HD7.out).mono ?_
              rintro e w' ⟨rfl, rfl⟩
              go_wp2_with fail
              refine (push_dead q _ _ _ _ (HD7.out.pure ((Below.refl _ _).alloc (Nat.le_refl _) _))).mono ?_
              rintro e w' ⟨rfl, rfl⟩
              have HB8 := Lib.hid (pure_below HB7.out ((Below.refl w7.heap.size w7).alloc (Nat.le_refl _) (.cells #[.int .i64 0, .int .i64 0, .int .u64 0] 49)))
              have HD8 := Lib.hid (HD7.out.pure ((Below.refl w7.heap.size w7).alloc (Nat.le_refl _) (.cells #[.int .i64 0, .int .i64 0, .int .u64 0] 49)))
              go_wp2_with fail
              refine (len_dead q _ HD8.out).mono ?_
              rintro e w' ⟨rfl, rfl⟩
              go_wp2
              go_roundw
              case rel => exact ⟨k + 1, _, by omega, rfl, by go_num, pure_below HB8.out ((Below.refl _ _).alloc (Nat.le_refl _) _), .inr ⟨_, rfl, by have := Blk.new (w7.alloc (.cells #[.int .i64 0, .int .i64 0, .int .u64 0] 49)) 57 #[.slice none 0 0, .bool false]; simpa using this⟩⟩
              case measure => simp [intOf]; omega
            · go_wp2_with fail
              refine (works_spec _).mono ?_
              rintro e w3 ⟨rfl, hb3⟩
              go_wp2
              go_ret
              exact ⟨rfl, pure_below HB.out hb3⟩

theorem stackKnown_run (W : World) (_base : Nat) : Calls Try.prog 8 #[] W fun e w' => e = .returned (.bool true) ∧ Below W.heap.size W w' := known_spec W
open Go.ChangeShapes Go.WideShapes Go.ChangeAt
set_option maxRecDepth 100000 in
theorem stackKnown_lifted (os : Os) (started : os.Started) (H : Type) (enc : TypeId × Value → H) :
    ReturnsInHanded {} Try.checked os 8 .any (Rows.stackKnownSpec.pre6 enc Try.prog Try.f8 Rows.stackKnownRow.domain false) (Rows.stackKnownSpec.post enc Try.prog Try.f8 false true false false) := by
  refine returnsInHanded_of_change (C := Try.checked) acc_own started (by kernel_rfl) Try.func8
    (ChangeSpec.witness6 (enc := enc) (C := Try.checked) false ⟨#[], #[], []⟩ 8 (by kernel_rfl) (by kernel_rfl) (by kernel_rfl) (by kernel_rfl)) ?_
  intro W base args ds gs before hval0 hW hcnd _
  have hval : ∀ (j : Nat) t v, Try.f8.params[j]? = some t → args[j]? = some v → Value.okWide Try.prog W .any base t v := hval0
  have hW' := hW
  obtain ⟨p, q, hA0, hV, rfl, hfz, hnd⟩ := hW
  have hA : DataW.TrodAll enc Try.prog W 0 (fun _ => true) true Try.f8.params.toList args.toList ds p := hA0
  rw [Try.params8] at hA
  obtain ⟨rfl, rfl, rfl⟩ := trodAll_none hA
  obtain ⟨rfl, rfl⟩ := trodVars_none hV
  clear hA0 hval0
  refine (stackKnown_run W base).mono fun e W' ⟨he, bel⟩ => ?_
  subst he
  exact ⟨_, rfl, _, _, _, [], [], [], hW', trodAll_mk1 (shut_bool Try.underlying4 _), trodAll_mk0, rfl, bel.frame _, fun h => by cases h⟩

theorem stackKnown_holds : Rows.StackKnownSaid :=
  OpenClaim.holds_of_wide 8 Try.f8 rfl rfl rfl rfl rfl rfl rfl ⟨rfl, rfl, rfl, rfl, rfl⟩ rfl rfl rfl rfl rfl (by kernel_rfl) Try.func8 (by kernel_rfl)
    (of_decide_eq_true (by kernel_rfl)) (by unfold Func.isWrapper; rw [if_neg (of_decide_eq_false (by kernel_rfl))]; exact ⟨rfl, rfl⟩)
    (fun os started H enc _ => stackKnown_lifted os started H enc)
#print axioms stackKnown_holds
end Go.Proofs.Ytiambljlgmnhaaa
