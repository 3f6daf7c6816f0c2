/-
  Packages tag and width and their references: the walks.
-/
import Derived.Test.YtmahemllfghdfaaTagA
namespace Go.Proofs.Ytmahemllfghdfaa
open Go.RowKit Go.Acc
def rowV (r : Int × Int × Int) : Value := .agg #[.int .i64 r.1, .int .i64 r.2.1, .int .i64 r.2.2]
theorem tindex {t : Int} (ht : isT t = true) : ∀ w, (Instr.index 61 (.agg tCells) (.int .i64 t)).run Try.prog w = .ok (rowV (tRow t)) w := by
  have h : ∀ n : Fin 37, ∀ w, (Instr.index 61 (.agg tCells) (.int .i64 ((n.val : Nat) : Int))).run Try.prog w = .ok (rowV (tRow ((n.val : Nat) : Int))) w := by
    intro n
    rcases n with ⟨n, hn⟩
    have : n = 0 ∨ n = 1 ∨ n = 2 ∨ n = 3 ∨ n = 4 ∨ n = 5 ∨ n = 6 ∨ n = 7 ∨ n = 8 ∨ n = 9 ∨ n = 10 ∨ n = 11 ∨ n = 12 ∨ n = 13 ∨ n = 14 ∨ n = 15 ∨ n = 16 ∨ n = 17 ∨ n = 18 ∨ n = 19 ∨ n = 20 ∨ n = 21 ∨ n = 22 ∨ n = 23 ∨ n = 24 ∨ n = 25 ∨ n = 26 ∨ n = 27 ∨ n = 28 ∨ n = 29 ∨ n = 30 ∨ n = 31 ∨ n = 32 ∨ n = 33 ∨ n = 34 ∨ n = 35 ∨ n = 36 := by omega
    rcases this with rfl | rfl | rfl | rfl | rfl | rfl | rfl | rfl | rfl | rfl | rfl | rfl | rfl | rfl | rfl | rfl | rfl | rfl | rfl | rfl | rfl | rfl | rfl | rfl | rfl | rfl | rfl | rfl | rfl | rfl | rfl | rfl | rfl | rfl | rfl | rfl | rfl
    all_goals
      intro w
      kernel_rfl
  exact t37_all (p := fun t => ∀ w, (Instr.index 61 (.agg tCells) (.int .i64 t)).run Try.prog w = .ok (rowV (tRow t)) w) h ht
set_option maxHeartbeats 400000 in
theorem tof_spec (t : Int) (w : World) : Calls Try.prog 29 #[.int .i64 t] w fun e w' => e = .returned (rowV (tRow t)) ∧ Below w.heap.size w w' := by
  cases ht : isT t with
  | true =>
    have hb := isT_iff.1 ht
    have hb0 := hb.1
    have hb1 := hb.2
    have hidx := tindex ht
    have HR := Lib.hid (show True from trivial)
    obtain ⟨r, hr⟩ : ∃ r, tRow t = r := ⟨_, rfl⟩
    obtain ⟨r0, r1, r2⟩ := r
    rw [hr] at hidx ⊢
    unfold rowV at hidx ⊢
    clear hb hr ht
    go_enter Try.func29, Try.ntmps29
    go_wp2_with fail
    go_at_call 41
    refine (tkinds_spec _).mono ?_
    rintro e w1 ⟨rfl, hb⟩
    have HK := Lib.hid ((Blk.new w 53 #[.int .i64 0, .int .i64 0, .int .i64 0]).pure hb)
    have HB := Lib.hid (pure_trans ((Below.refl w.heap.size w).alloc (Nat.le_refl _) _) hb)
    have c0 := (HK.out.cell 0).trans (show _ = some (Value.int .i64 0) from rfl)
    have c1 := (HK.out.cell 1).trans (show _ = some (Value.int .i64 0) from rfl)
    have c2 := (HK.out.cell 2).trans (show _ = some (Value.int .i64 0) from rfl)
    have f0 := HK.out.frozen 0
    have f1 := HK.out.frozen 1
    have f2 := HK.out.frozen 2
    clear hb
    go_wp2
    refine bodyPost_ret (v := .agg #[.int .i64 r0, .int .i64 r1, .int .i64 r2]) (by simp [results, Try.results29, go_sem, c0, c1, c2]) rfl ⟨rfl, ?_⟩
    exact ((HB.out.setCell (Nat.le_refl _) _).setCell (Nat.le_refl _) _).setCell (Nat.le_refl _) _
  | false =>
    rw [tRow_no ht]
    have hb : t < 0 ∨ 37 ≤ t := by
      have : ¬ (0 ≤ t ∧ t < 37) := by rw [← isT_iff, ht]; simp
      omega
    clear ht
    rcases hb with hb | hb
    · go_enter Try.func29, Try.ntmps29
      go_wp2
      refine bodyPost_ret (v := rowV (0, 0, 0)) (by simp [results, Try.results29, go_sem, rowV]) rfl ⟨rfl, ?_⟩
      exact (Below.refl _ _).alloc (Nat.le_refl _) _
    · have h0 : ¬ t < 0 := by omega
      go_enter Try.func29, Try.ntmps29
      go_wp2
      refine bodyPost_ret (v := rowV (0, 0, 0)) (by simp [results, Try.results29, go_sem, rowV]) rfl ⟨rfl, ?_⟩
      exact (Below.refl _ _).alloc (Nat.le_refl _) _

theorem tfield0 (a b c : Int) (w : World) : (Instr.field 53 (.agg #[.int .i64 a, .int .i64 b, .int .i64 c]) 0).run Try.prog w = .ok (.int .i64 a) w := by kernel_rfl
theorem tfield1 (a b c : Int) (w : World) : (Instr.field 53 (.agg #[.int .i64 a, .int .i64 b, .int .i64 c]) 1).run Try.prog w = .ok (.int .i64 b) w := by kernel_rfl
theorem tfield2 (a b c : Int) (w : World) : (Instr.field 53 (.agg #[.int .i64 a, .int .i64 b, .int .i64 c]) 2).run Try.prog w = .ok (.int .i64 c) w := by kernel_rfl
theorem tof_spec2 (t r0 r1 r2 : Int) (w : World) (h : tRow t = (r0, r1, r2)) : Calls Try.prog 29 #[.int .i64 t] w fun e w' => e = .returned (.agg #[.int .i64 r0, .int .i64 r1, .int .i64 r2]) ∧ Below w.heap.size w w' := by
  have := tof_spec t w
  rw [h] at this
  exact this
set_option maxRecDepth 100000 in
set_option maxHeartbeats 400000 in
theorem legal_spec (t : Int) (w : World) : Calls Try.prog 16 #[.int .i64 t] w fun e w' => e = .returned (.bool (legalT t)) ∧ Below w.heap.size w w' := by
  unfold legalT
  obtain ⟨r, hr⟩ : ∃ r, tRow t = r := ⟨_, rfl⟩
  obtain ⟨r0, r1, r2⟩ := r
  have HR := Lib.hid hr
  rw [hr]
  clear hr
  have hf0 := tfield0
  have hf1 := tfield1
  have hf2 := tfield2
  go_enter Try.func16, Try.ntmps16
  go_wp2_with fail
  go_at_call 29
  refine (tof_spec2 t r0 r1 r2 _ HR.out).mono ?_
  rintro e w1 ⟨rfl, hb⟩
  have HB := Lib.hid hb
  clear hb
  go_wp2
  go_ret
  exact ⟨rfl, HB.out⟩
set_option maxRecDepth 100000 in
set_option maxHeartbeats 400000 in
theorem inline_spec (t : Int) (w : World) : Calls Try.prog 13 #[.int .i64 t] w fun e w' => e = .returned (.bool (inlineT t)) ∧ Below w.heap.size w w' := by
  unfold inlineT
  obtain ⟨r, hr⟩ : ∃ r, tRow t = r := ⟨_, rfl⟩
  obtain ⟨r0, r1, r2⟩ := r
  have HR := Lib.hid hr
  rw [hr]
  clear hr
  have hf0 := tfield0
  have hf1 := tfield1
  have hf2 := tfield2
  go_enter Try.func13, Try.ntmps13
  go_wp2_with fail
  go_at_call 29
  refine (tof_spec2 t r0 r1 r2 _ HR.out).mono ?_
  rintro e w1 ⟨rfl, hb⟩
  have HB := Lib.hid hb
  clear hb
  go_wp2
  go_ret
  exact ⟨rfl, HB.out⟩
theorem pow_wrap (n : Nat) : wrap64 ((2 : Int) ^ (n % 4)) = 2 ^ (n % 4) := by
  have : n % 4 = 0 ∨ n % 4 = 1 ∨ n % 4 = 2 ∨ n % 4 = 3 := by omega
  rcases this with e | e | e | e <;> rw [e] <;> unfold wrap64 <;> simp only [Int.reducePow] <;> omega
set_option maxHeartbeats 400000 in
theorem unpack_spec (c : UInt8) (w : World) : Calls Try.prog 39 #[.int .u8 (c.toNat : Int)] w fun e w' => e = .returned (.tuple #[.int .i64 (unT c), .int .i64 (unW c), .int .i64 (unE c)]) ∧ Below w.heap.size w w' := by
  have hc := c.toNat_lt
  have hq : IntKind.u8.wrap ((c.toNat : Int) / 4) = (c.toNat : Int) / 4 := by rw [IntKind.wrap_u8]; omega
  cases hl : legalT ((c.toNat : Int) / 4) with
  | true =>
    have HL := Lib.hid hl
    have h1 : unT c = (c.toNat : Int) / 4 := by unfold unT; rw [if_pos hl]
    have h2 : unW c = 2 ^ (c.toNat % 4) := by unfold unW; rw [if_pos hl]
    have h3 : unE c = 0 := by unfold unE; rw [if_pos hl]
    rw [h1, h2, h3]
    clear hl h1 h2 h3
    go_enter Try.func39, Try.ntmps39
    go_wp2_with fail
    go_at_call 16
    refine (legal_spec _ _).mono ?_
    rw [HL.out]
    rintro e w1 ⟨rfl, hb⟩
    have HB := Lib.hid hb
    clear hb
    go_wp2
    rw [pow_wrap]
    go_ret3
    exact ⟨rfl, HB.out⟩
  | false =>
    have HL := Lib.hid hl
    have h1 : unT c = 0 := by unfold unT; rw [hl]; rfl
    have h2 : unW c = 0 := by unfold unW; rw [hl]; rfl
    have h3 : unE c = 20 := by unfold unE; rw [hl]; rfl
    rw [h1, h2, h3]
    clear hl h1 h2 h3
    go_enter Try.func39, Try.ntmps39
    go_wp2_with fail
    go_at_call 16
    refine (legal_spec _ _).mono ?_
    rw [HL.out]
    rintro e w1 ⟨rfl, hb⟩
    have HB := Lib.hid hb
    clear hb
    go_wp2
    go_ret3
    exact ⟨rfl, HB.out⟩

theorem isT_no {t : Int} (h : isT t = false) : t < 0 ∨ 37 ≤ t := by
  have : ¬ (0 ≤ t ∧ t < 37) := by rw [← isT_iff, h]; simp
  omega
set_option maxHeartbeats 4000000 in
theorem rlegal_spec (t : Int) (w : World) : Calls Try.prog 37 #[.int .i64 t] w fun e w' => e = .returned (.bool (legalT t)) ∧ w = w' := by
  cases ht : isT t with
  | true =>
    have h := isT_iff.1 ht
    have h : t = 0 ∨ t = 1 ∨ t = 2 ∨ t = 3 ∨ t = 4 ∨ t = 5 ∨ t = 6 ∨ t = 7 ∨ t = 8 ∨ t = 9 ∨ t = 10 ∨ t = 11 ∨ t = 12 ∨ t = 13 ∨ t = 14 ∨ t = 15 ∨ t = 16 ∨ t = 17 ∨ t = 18 ∨ t = 19 ∨ t = 20 ∨ t = 21 ∨ t = 22 ∨ t = 23 ∨ t = 24 ∨ t = 25 ∨ t = 26 ∨ t = 27 ∨ t = 28 ∨ t = 29 ∨ t = 30 ∨ t = 31 ∨ t = 32 ∨ t = 33 ∨ t = 34 ∨ t = 35 ∨ t = 36 := by omega
    clear ht
    rcases h with rfl | rfl | rfl | rfl | rfl | rfl | rfl | rfl | rfl | rfl | rfl | rfl | rfl | rfl | rfl | rfl | rfl | rfl | rfl | rfl | rfl | rfl | rfl | rfl | rfl | rfl | rfl | rfl | rfl | rfl | rfl | rfl | rfl | rfl | rfl | rfl | rfl
    all_goals
      go_enter Try.func37, Try.ntmps37
      go_wp2
      go_ret
      exact ⟨rfl, rfl⟩
  | false =>
    have hn := isT_no ht
    have hl : legalT t = false := by unfold legalT; rw [tRow_no ht]; rfl
    have H := Lib.hid hl
    have e0 : (t == 0) = false := beq_eq_false_iff_ne.mpr (by omega)
    have e1 : (t == 1) = false := beq_eq_false_iff_ne.mpr (by omega)
    have e2 : (t == 2) = false := beq_eq_false_iff_ne.mpr (by omega)
    have e4 : (t == 4) = false := beq_eq_false_iff_ne.mpr (by omega)
    have e5 : (t == 5) = false := beq_eq_false_iff_ne.mpr (by omega)
    have e6 : (t == 6) = false := beq_eq_false_iff_ne.mpr (by omega)
    have e7 : (t == 7) = false := beq_eq_false_iff_ne.mpr (by omega)
    have e9 : (t == 9) = false := beq_eq_false_iff_ne.mpr (by omega)
    have e10 : (t == 10) = false := beq_eq_false_iff_ne.mpr (by omega)
    have e11 : (t == 11) = false := beq_eq_false_iff_ne.mpr (by omega)
    have e12 : (t == 12) = false := beq_eq_false_iff_ne.mpr (by omega)
    have e14 : (t == 14) = false := beq_eq_false_iff_ne.mpr (by omega)
    have e16 : (t == 16) = false := beq_eq_false_iff_ne.mpr (by omega)
    have e17 : (t == 17) = false := beq_eq_false_iff_ne.mpr (by omega)
    have e19 : (t == 19) = false := beq_eq_false_iff_ne.mpr (by omega)
    have e20 : (t == 20) = false := beq_eq_false_iff_ne.mpr (by omega)
    have e22 : (t == 22) = false := beq_eq_false_iff_ne.mpr (by omega)
    have e23 : (t == 23) = false := beq_eq_false_iff_ne.mpr (by omega)
    have e25 : (t == 25) = false := beq_eq_false_iff_ne.mpr (by omega)
    have e26 : (t == 26) = false := beq_eq_false_iff_ne.mpr (by omega)
    have e36 : (t == 36) = false := beq_eq_false_iff_ne.mpr (by omega)
    clear hn hl ht
    go_enter Try.func37, Try.ntmps37
    go_wp2
    go_ret
    exact ⟨ret_bool H.out.symm, rfl⟩
set_option maxHeartbeats 400000 in
theorem rinline_spec (t : Int) (w : World) : Calls Try.prog 35 #[.int .i64 t] w fun e w' => e = .returned (.bool (inlineT t)) ∧ w = w' := by
  by_cases h0 : t = 0
  · subst h0
    go_enter Try.func35, Try.ntmps35
    go_wp2
    go_ret
    exact ⟨rfl, rfl⟩
  by_cases h1 : t = 1
  · subst h1
    go_enter Try.func35, Try.ntmps35
    go_wp2
    go_ret
    exact ⟨rfl, rfl⟩
  by_cases h2 : t = 2
  · subst h2
    go_enter Try.func35, Try.ntmps35
    go_wp2
    go_ret
    exact ⟨rfl, rfl⟩
  by_cases h3 : t = 26
  · subst h3
    go_enter Try.func35, Try.ntmps35
    go_wp2
    go_ret
    exact ⟨rfl, rfl⟩
  have hl : inlineT t = false := inline_no h0 h1 h2 h3
  have H := Lib.hid hl
  have e0 : (t == 0) = false := beq_eq_false_iff_ne.mpr h0
  have e1 : (t == 1) = false := beq_eq_false_iff_ne.mpr h1
  have e2 : (t == 2) = false := beq_eq_false_iff_ne.mpr h2
  have e3 : (t == 26) = false := beq_eq_false_iff_ne.mpr h3
  clear h0 h1 h2 h3 hl
  go_enter Try.func35, Try.ntmps35
  go_wp2
  go_ret
  exact ⟨ret_bool H.out.symm, rfl⟩
set_option maxHeartbeats 400000 in
theorem rwidth_spec (n : Nat) (w : World) (h : n < 4) : Calls Try.prog 45 #[.int .i64 n] w fun e w' => e = .returned (.int .i64 (2 ^ n)) ∧ w = w' := by
  have : n = 0 ∨ n = 1 ∨ n = 2 ∨ n = 3 := by omega
  clear h
  rcases this with rfl | rfl | rfl | rfl
  all_goals
    go_enter Try.func45, Try.ntmps45
    go_wp2
    go_ret
    exact ⟨rfl, rfl⟩
set_option maxHeartbeats 400000 in
theorem runpack_spec (c : UInt8) (w : World) : Calls Try.prog 40 #[.int .u8 (c.toNat : Int)] w fun e w' => e = .returned (.tuple #[.int .i64 (unT c), .int .i64 (unW c), .int .i64 (unE c)]) ∧ w = w' := by
  have hc := c.toNat_lt
  cases hl : legalT ((c.toNat : Int) / 4) with
  | true =>
    have HL := Lib.hid hl
    have h1 : unT c = (c.toNat : Int) / 4 := by unfold unT; rw [if_pos hl]
    have h2 : unW c = 2 ^ (c.toNat % 4) := by unfold unW; rw [if_pos hl]
    have h3 : unE c = 0 := by unfold unE; rw [if_pos hl]
    rw [h1, h2, h3]
    clear hl h1 h2 h3
    go_enter Try.func40, Try.ntmps40
    go_wp2_with fail
    go_at_call 37
    refine (rlegal_spec _ _).mono ?_
    rw [HL.out]
    rintro e w1 ⟨rfl, rfl⟩
    go_wp2_with fail
    rw [show (c.toNat : Int) % 4 = ((c.toNat % 4 : Nat) : Int) by omega]
    go_at_call 45
    refine (rwidth_spec (c.toNat % 4) _ (Nat.mod_lt _ (by omega))).mono ?_
    rintro e w1 ⟨rfl, rfl⟩
    go_wp2
    go_ret3
    exact ⟨rfl, rfl⟩
  | false =>
    have HL := Lib.hid hl
    have h1 : unT c = 0 := by unfold unT; rw [hl]; rfl
    have h2 : unW c = 0 := by unfold unW; rw [hl]; rfl
    have h3 : unE c = 20 := by unfold unE; rw [hl]; rfl
    rw [h1, h2, h3]
    clear hl h1 h2 h3
    go_enter Try.func40, Try.ntmps40
    go_wp2_with fail
    go_at_call 37
    refine (rlegal_spec _ _).mono ?_
    rw [HL.out]
    rintro e w1 ⟨rfl, rfl⟩
    go_wp2
    go_ret3
    exact ⟨rfl, rfl⟩
end Go.Proofs.Ytmahemllfghdfaa
