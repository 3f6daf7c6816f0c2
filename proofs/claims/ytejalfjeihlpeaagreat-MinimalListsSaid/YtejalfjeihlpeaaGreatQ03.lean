/-
  Packages tag and width and their references: the walks.
  The reference's reader, the signed readers.
-/
import Derived.Test.YtejalfjeihlpeaaGreatQ02
namespace Go.Proofs.YtejalfjeihlpeaaGreat
open Go.RowKit Go.Acc
def rowV (r : Int × Int × Int) : Value := .agg #[.int .i64 r.1, .int .i64 r.2.1, .int .i64 r.2.2]
theorem tindex {t : Int} (ht : isT t = true) : ∀ w, (Instr.index 131 (.agg tCells) (.int .i64 t)).run Tryz.prog w = .ok (rowV (tRow t)) w := by
  have h : ∀ n : Fin 37, ∀ w, (Instr.index 131 (.agg tCells) (.int .i64 ((n.val : Nat) : Int))).run Tryz.prog w = .ok (rowV (tRow ((n.val : Nat) : Int))) w := by
    intro n
    rcases n with ⟨n, hn⟩
    have : n = 0 ∨ n = 1 ∨ n = 2 ∨ n = 3 ∨ n = 4 ∨ n = 5 ∨ n = 6 ∨ n = 7 ∨ n = 8 ∨ n = 9 ∨ n = 10 ∨ n = 11 ∨ n = 12 ∨ n = 13 ∨ n = 14 ∨ n = 15 ∨ n = 16 ∨ n = 17 ∨ n = 18 ∨ n = 19 ∨ n = 20 ∨ n = 21 ∨ n = 22 ∨ n = 23 ∨ n = 24 ∨ n = 25 ∨ n = 26 ∨ n = 27 ∨ n = 28 ∨ n = 29 ∨ n = 30 ∨ n = 31 ∨ n = 32 ∨ n = 33 ∨ n = 34 ∨ n = 35 ∨ n = 36 := by omega
    rcases this with rfl | rfl | rfl | rfl | rfl | rfl | rfl | rfl | rfl | rfl | rfl | rfl | rfl | rfl | rfl | rfl | rfl | rfl | rfl | rfl | rfl | rfl | rfl | rfl | rfl | rfl | rfl | rfl | rfl | rfl | rfl | rfl | rfl | rfl | rfl | rfl | rfl
    all_goals
      intro w
      kernel_rfl
  exact t37_all (p := fun t => ∀ w, (Instr.index 131 (.agg tCells) (.int .i64 t)).run Tryz.prog w = .ok (rowV (tRow t)) w) h ht
set_option maxHeartbeats 400000 in
theorem tof_spec (t : Int) (w : World) : Calls Tryz.prog 85 #[.int .i64 t] w fun e w' => e = .returned (rowV (tRow t)) ∧ Below w.heap.size w w' := by
  cases ht : isT t with
  | true =>
    have hb := isT_iff.1 ht
    have hb0 := hb.1
    have hb1 := hb.2
    have hidx := tindex ht
    have HR := Lib.hid (show True from trivial)
    obtain ⟨r, hr⟩ : ∃ r, tRow t = r := ⟨_, rfl⟩
    obtain ⟨r0, r1, r2⟩ := r
    rw [hr] at hidx ⊢
    unfold rowV at hidx ⊢
    clear hb hr ht
    go_enter Tryz.func85, Tryz.ntmps85
    go_wp2_with fail
    go_at_call 116
    refine (tkinds_spec _).mono ?_
    rintro e w1 ⟨rfl, hb⟩
    have HK := Lib.hid ((Blk.new w 112 #[.int .i64 0, .int .i64 0, .int .i64 0]).pure hb)
    have HB := Lib.hid (pure_trans ((Below.refl w.heap.size w).alloc (Nat.le_refl _) _) hb)
    have c0 := (HK.out.cell 0).trans (show _ = some (Value.int .i64 0) from rfl)
    have c1 := (HK.out.cell 1).trans (show _ = some (Value.int .i64 0) from rfl)
    have c2 := (HK.out.cell 2).trans (show _ = some (Value.int .i64 0) from rfl)
    have f0 := HK.out.frozen 0
    have f1 := HK.out.frozen 1
    have f2 := HK.out.frozen 2
    clear hb
    go_wp2
    refine bodyPost_ret (v := .agg #[.int .i64 r0, .int .i64 r1, .int .i64 r2]) (by simp [results, Tryz.results85, go_sem, c0, c1, c2]) rfl ⟨rfl, ?_⟩
    exact ((HB.out.setCell (Nat.le_refl _) _).setCell (Nat.le_refl _) _).setCell (Nat.le_refl _) _
  | false =>
    rw [tRow_no ht]
    have hb : t < 0 ∨ 37 ≤ t := by
      have : ¬ (0 ≤ t ∧ t < 37) := by rw [← isT_iff, ht]; simp
      omega
    clear ht
    rcases hb with hb | hb
    · go_enter Tryz.func85, Tryz.ntmps85
      go_wp2
      refine bodyPost_ret (v := rowV (0, 0, 0)) (by simp [results, Tryz.results85, go_sem, rowV]) rfl ⟨rfl, ?_⟩
      exact (Below.refl _ _).alloc (Nat.le_refl _) _
    · have h0 : ¬ t < 0 := by omega
      go_enter Tryz.func85, Tryz.ntmps85
      go_wp2
      refine bodyPost_ret (v := rowV (0, 0, 0)) (by simp [results, Tryz.results85, go_sem, rowV]) rfl ⟨rfl, ?_⟩
      exact (Below.refl _ _).alloc (Nat.le_refl _) _

theorem tfield0 (a b c : Int) (w : World) : (Instr.field 112 (.agg #[.int .i64 a, .int .i64 b, .int .i64 c]) 0).run Tryz.prog w = .ok (.int .i64 a) w := by kernel_rfl
theorem tfield1 (a b c : Int) (w : World) : (Instr.field 112 (.agg #[.int .i64 a, .int .i64 b, .int .i64 c]) 1).run Tryz.prog w = .ok (.int .i64 b) w := by kernel_rfl
theorem tfield2 (a b c : Int) (w : World) : (Instr.field 112 (.agg #[.int .i64 a, .int .i64 b, .int .i64 c]) 2).run Tryz.prog w = .ok (.int .i64 c) w := by kernel_rfl
theorem tof_spec2 (t r0 r1 r2 : Int) (w : World) (h : tRow t = (r0, r1, r2)) : Calls Tryz.prog 85 #[.int .i64 t] w fun e w' => e = .returned (.agg #[.int .i64 r0, .int .i64 r1, .int .i64 r2]) ∧ Below w.heap.size w w' := by
  have := tof_spec t w
  rw [h] at this
  exact this
set_option maxRecDepth 100000 in
set_option maxHeartbeats 400000 in
theorem legal_spec (t : Int) (w : World) : Calls Tryz.prog 84 #[.int .i64 t] w fun e w' => e = .returned (.bool (legalT t)) ∧ Below w.heap.size w w' := by
  unfold legalT
  obtain ⟨r, hr⟩ : ∃ r, tRow t = r := ⟨_, rfl⟩
  obtain ⟨r0, r1, r2⟩ := r
  have HR := Lib.hid hr
  rw [hr]
  clear hr
  have hf0 := tfield0
  have hf1 := tfield1
  have hf2 := tfield2
  go_enter Tryz.func84, Tryz.ntmps84
  go_wp2_with fail
  go_at_call 85
  refine (tof_spec2 t r0 r1 r2 _ HR.out).mono ?_
  rintro e w1 ⟨rfl, hb⟩
  have HB := Lib.hid hb
  clear hb
  go_wp2
  go_ret
  exact ⟨rfl, HB.out⟩
set_option maxRecDepth 100000 in
set_option maxHeartbeats 400000 in
theorem inline_spec (t : Int) (w : World) : Calls Tryz.prog 52 #[.int .i64 t] w fun e w' => e = .returned (.bool (inlineT t)) ∧ Below w.heap.size w w' := by
  unfold inlineT
  obtain ⟨r, hr⟩ : ∃ r, tRow t = r := ⟨_, rfl⟩
  obtain ⟨r0, r1, r2⟩ := r
  have HR := Lib.hid hr
  rw [hr]
  clear hr
  have hf0 := tfield0
  have hf1 := tfield1
  have hf2 := tfield2
  go_enter Tryz.func52, Tryz.ntmps52
  go_wp2_with fail
  go_at_call 85
  refine (tof_spec2 t r0 r1 r2 _ HR.out).mono ?_
  rintro e w1 ⟨rfl, hb⟩
  have HB := Lib.hid hb
  clear hb
  go_wp2
  go_ret
  exact ⟨rfl, HB.out⟩
set_option maxHeartbeats 400000 in
theorem elem_spec (t : Int) (w : World) : Calls Tryz.prog 144 #[.int .i64 t] w fun e w' => e = .returned (.tuple #[.int .i64 (elemT t), .int .i64 (manyT t), .bool (vecT t)]) ∧ Below w.heap.size w w' := by
  unfold elemT manyT vecT
  obtain ⟨r, hr⟩ : ∃ r, tRow t = r := ⟨_, rfl⟩
  obtain ⟨r0, r1, r2⟩ := r
  have HR := Lib.hid hr
  rw [hr]
  clear hr
  have hf0 := tfield0
  have hf1 := tfield1
  have hf2 := tfield2
  go_enter Tryz.func144, Tryz.ntmps144
  go_wp2_with fail
  go_at_call 85
  refine (tof_spec2 t r0 r1 r2 _ HR.out).mono ?_
  rintro e w1 ⟨rfl, hb⟩
  have HB := Lib.hid hb
  clear hb
  go_wp2_with fail
  go_quiet (fail)
  go_wp2
  go_ret3
  exact ⟨rfl, below_drewN (HB.out.alloc HB.out.size _) _⟩
theorem pow_wrap (n : Nat) : wrap64 ((2 : Int) ^ (n % 4)) = 2 ^ (n % 4) := by
  have : n % 4 = 0 ∨ n % 4 = 1 ∨ n % 4 = 2 ∨ n % 4 = 3 := by omega
  rcases this with e | e | e | e <;> rw [e] <;> unfold wrap64 <;> simp only [Int.reducePow] <;> omega
set_option maxHeartbeats 400000 in
theorem unpack_spec (c : UInt8) (w : World) : Calls Tryz.prog 50 #[.int .u8 (c.toNat : Int)] w fun e w' => e = .returned (.tuple #[.int .i64 (unT c), .int .i64 (unW c), .int .i64 (unE c)]) ∧ Below w.heap.size w w' := by
  have hc := c.toNat_lt
  have hq : IntKind.u8.wrap ((c.toNat : Int) / 4) = (c.toNat : Int) / 4 := by rw [IntKind.wrap_u8]; omega
  cases hl : legalT ((c.toNat : Int) / 4) with
  | true =>
    have HL := Lib.hid hl
    have h1 : unT c = (c.toNat : Int) / 4 := by unfold unT; rw [if_pos hl]
    have h2 : unW c = 2 ^ (c.toNat % 4) := by unfold unW; rw [if_pos hl]
    have h3 : unE c = 0 := by unfold unE; rw [if_pos hl]
    rw [h1, h2, h3]
    clear hl h1 h2 h3
    go_enter Tryz.func50, Tryz.ntmps50
    go_wp2_with fail
    go_at_call 84
    refine (legal_spec _ _).mono ?_
    rw [HL.out]
    rintro e w1 ⟨rfl, hb⟩
    have HB := Lib.hid hb
    clear hb
    go_wp2
    rw [pow_wrap]
    go_ret3
    exact ⟨rfl, HB.out⟩
  | false =>
    have HL := Lib.hid hl
    have h1 : unT c = 0 := by unfold unT; rw [hl]; rfl
    have h2 : unW c = 0 := by unfold unW; rw [hl]; rfl
    have h3 : unE c = 20 := by unfold unE; rw [hl]; rfl
    rw [h1, h2, h3]
    clear hl h1 h2 h3
    go_enter Tryz.func50, Tryz.ntmps50
    go_wp2_with fail
    go_at_call 84
    refine (legal_spec _ _).mono ?_
    rw [HL.out]
    rintro e w1 ⟨rfl, hb⟩
    have HB := Lib.hid hb
    clear hb
    go_wp2
    go_ret3
    exact ⟨rfl, HB.out⟩

theorem isT_no {t : Int} (h : isT t = false) : t < 0 ∨ 37 ≤ t := by
  have : ¬ (0 ≤ t ∧ t < 37) := by rw [← isT_iff, h]; simp
  omega
set_option maxHeartbeats 4000000 in
theorem rlegal_spec (t : Int) (w : World) : Calls Tryz.prog 96 #[.int .i64 t] w fun e w' => e = .returned (.bool (legalT t)) ∧ w = w' := by
  cases ht : isT t with
  | true =>
    have h := isT_iff.1 ht
    have h : t = 0 ∨ t = 1 ∨ t = 2 ∨ t = 3 ∨ t = 4 ∨ t = 5 ∨ t = 6 ∨ t = 7 ∨ t = 8 ∨ t = 9 ∨ t = 10 ∨ t = 11 ∨ t = 12 ∨ t = 13 ∨ t = 14 ∨ t = 15 ∨ t = 16 ∨ t = 17 ∨ t = 18 ∨ t = 19 ∨ t = 20 ∨ t = 21 ∨ t = 22 ∨ t = 23 ∨ t = 24 ∨ t = 25 ∨ t = 26 ∨ t = 27 ∨ t = 28 ∨ t = 29 ∨ t = 30 ∨ t = 31 ∨ t = 32 ∨ t = 33 ∨ t = 34 ∨ t = 35 ∨ t = 36 := by omega
    clear ht
    rcases h with rfl | rfl | rfl | rfl | rfl | rfl | rfl | rfl | rfl | rfl | rfl | rfl | rfl | rfl | rfl | rfl | rfl | rfl | rfl | rfl | rfl | rfl | rfl | rfl | rfl | rfl | rfl | rfl | rfl | rfl | rfl | rfl | rfl | rfl | rfl | rfl | rfl
    all_goals
      go_enter Tryz.func96, Tryz.ntmps96
      go_wp2
      go_ret
      exact ⟨rfl, rfl⟩
  | false =>
    have hn := isT_no ht
    have hl : legalT t = false := by unfold legalT; rw [tRow_no ht]; rfl
    have H := Lib.hid hl
    have e0 : (t == 0) = false := beq_eq_false_iff_ne.mpr (by omega)
    have e1 : (t == 1) = false := beq_eq_false_iff_ne.mpr (by omega)
    have e2 : (t == 2) = false := beq_eq_false_iff_ne.mpr (by omega)
    have e4 : (t == 4) = false := beq_eq_false_iff_ne.mpr (by omega)
    have e5 : (t == 5) = false := beq_eq_false_iff_ne.mpr (by omega)
    have e6 : (t == 6) = false := beq_eq_false_iff_ne.mpr (by omega)
    have e7 : (t == 7) = false := beq_eq_false_iff_ne.mpr (by omega)
    have e9 : (t == 9) = false := beq_eq_false_iff_ne.mpr (by omega)
    have e10 : (t == 10) = false := beq_eq_false_iff_ne.mpr (by omega)
    have e11 : (t == 11) = false := beq_eq_false_iff_ne.mpr (by omega)
    have e12 : (t == 12) = false := beq_eq_false_iff_ne.mpr (by omega)
    have e14 : (t == 14) = false := beq_eq_false_iff_ne.mpr (by omega)
    have e16 : (t == 16) = false := beq_eq_false_iff_ne.mpr (by omega)
    have e17 : (t == 17) = false := beq_eq_false_iff_ne.mpr (by omega)
    have e19 : (t == 19) = false := beq_eq_false_iff_ne.mpr (by omega)
    have e20 : (t == 20) = false := beq_eq_false_iff_ne.mpr (by omega)
    have e22 : (t == 22) = false := beq_eq_false_iff_ne.mpr (by omega)
    have e23 : (t == 23) = false := beq_eq_false_iff_ne.mpr (by omega)
    have e25 : (t == 25) = false := beq_eq_false_iff_ne.mpr (by omega)
    have e26 : (t == 26) = false := beq_eq_false_iff_ne.mpr (by omega)
    have e36 : (t == 36) = false := beq_eq_false_iff_ne.mpr (by omega)
    clear hn hl ht
    go_enter Tryz.func96, Tryz.ntmps96
    go_wp2
    go_ret
    exact ⟨ret_bool H.out.symm, rfl⟩
set_option maxHeartbeats 400000 in
theorem rinline_spec (t : Int) (w : World) : Calls Tryz.prog 63 #[.int .i64 t] w fun e w' => e = .returned (.bool (inlineT t)) ∧ w = w' := by
  by_cases h0 : t = 0
  · subst h0
    go_enter Tryz.func63, Tryz.ntmps63
    go_wp2
    go_ret
    exact ⟨rfl, rfl⟩
  by_cases h1 : t = 1
  · subst h1
    go_enter Tryz.func63, Tryz.ntmps63
    go_wp2
    go_ret
    exact ⟨rfl, rfl⟩
  by_cases h2 : t = 2
  · subst h2
    go_enter Tryz.func63, Tryz.ntmps63
    go_wp2
    go_ret
    exact ⟨rfl, rfl⟩
  by_cases h3 : t = 26
  · subst h3
    go_enter Tryz.func63, Tryz.ntmps63
    go_wp2
    go_ret
    exact ⟨rfl, rfl⟩
  have hl : inlineT t = false := inline_no h0 h1 h2 h3
  have H := Lib.hid hl
  have e0 : (t == 0) = false := beq_eq_false_iff_ne.mpr h0
  have e1 : (t == 1) = false := beq_eq_false_iff_ne.mpr h1
  have e2 : (t == 2) = false := beq_eq_false_iff_ne.mpr h2
  have e3 : (t == 26) = false := beq_eq_false_iff_ne.mpr h3
  clear h0 h1 h2 h3 hl
  go_enter Tryz.func63, Tryz.ntmps63
  go_wp2
  go_ret
  exact ⟨ret_bool H.out.symm, rfl⟩
set_option maxHeartbeats 400000 in
theorem rwidth_spec (n : Nat) (w : World) (h : n < 4) : Calls Tryz.prog 97 #[.int .i64 n] w fun e w' => e = .returned (.int .i64 (2 ^ n)) ∧ w = w' := by
  have : n = 0 ∨ n = 1 ∨ n = 2 ∨ n = 3 := by omega
  clear h
  rcases this with rfl | rfl | rfl | rfl
  all_goals
    go_enter Tryz.func97, Tryz.ntmps97
    go_wp2
    go_ret
    exact ⟨rfl, rfl⟩
set_option maxHeartbeats 400000 in
theorem runpack_spec (c : UInt8) (w : World) : Calls Tryz.prog 61 #[.int .u8 (c.toNat : Int)] w fun e w' => e = .returned (.tuple #[.int .i64 (unT c), .int .i64 (unW c), .int .i64 (unE c)]) ∧ w = w' := by
  have hc := c.toNat_lt
  cases hl : legalT ((c.toNat : Int) / 4) with
  | true =>
    have HL := Lib.hid hl
    have h1 : unT c = (c.toNat : Int) / 4 := by unfold unT; rw [if_pos hl]
    have h2 : unW c = 2 ^ (c.toNat % 4) := by unfold unW; rw [if_pos hl]
    have h3 : unE c = 0 := by unfold unE; rw [if_pos hl]
    rw [h1, h2, h3]
    clear hl h1 h2 h3
    go_enter Tryz.func61, Tryz.ntmps61
    go_wp2_with fail
    go_at_call 96
    refine (rlegal_spec _ _).mono ?_
    rw [HL.out]
    rintro e w1 ⟨rfl, rfl⟩
    go_wp2_with fail
    rw [show (c.toNat : Int) % 4 = ((c.toNat % 4 : Nat) : Int) by omega]
    go_at_call 97
    refine (rwidth_spec (c.toNat % 4) _ (Nat.mod_lt _ (by omega))).mono ?_
    rintro e w1 ⟨rfl, rfl⟩
    go_wp2
    go_ret3
    exact ⟨rfl, rfl⟩
  | false =>
    have HL := Lib.hid hl
    have h1 : unT c = 0 := by unfold unT; rw [hl]; rfl
    have h2 : unW c = 0 := by unfold unW; rw [hl]; rfl
    have h3 : unE c = 20 := by unfold unE; rw [hl]; rfl
    rw [h1, h2, h3]
    clear hl h1 h2 h3
    go_enter Tryz.func61, Tryz.ntmps61
    go_wp2_with fail
    go_at_call 96
    refine (rlegal_spec _ _).mono ?_
    rw [HL.out]
    rintro e w1 ⟨rfl, rfl⟩
    go_wp2
    go_ret3
    exact ⟨rfl, rfl⟩
end Go.Proofs.YtejalfjeihlpeaaGreat

namespace Go.Proofs.YtejalfjeihlpeaaGreat
open Go.RowKit Go.Acc

set_option maxHeartbeats 400000 in
theorem look_spec (A : Option Addr) (n c : Nat) (a x : Int) (w : World) (hn : n ≤ 9223372036854775807) :
    Calls Tryz.prog 135 #[.slice A n c, .int .i64 a, .int .i64 x] w fun e w' => e = .returned (.int .i64 (loadE n a x)) ∧ w = w' := by
  by_cases hw : isW x = true
  · have hx8 := isW_iff.1 hw
    have HW := Lib.hid hw
    have hlo : 1 ≤ x := by omega
    have hhi : x ≤ 8 := by omega
    by_cases hr : 0 ≤ a ∧ a + x ≤ n
    · have H := Lib.hid (show loadE n a x = 0 by simp only [loadE, hw, if_true, if_pos hr])
      rw [H.out]
      have h0 : ¬ a < 0 := by omega
      have h1 : ¬ (n : Int) < x := by omega
      have h2 : ¬ (n : Int) - x < a := by omega
      clear hw hx8 hr
      go_enter Tryz.func135, Tryz.ntmps135
      go_wp2_with (go_at_call 60; refine (wide_spec x _).mono ?_; rw [HW.out]; rintro e w' ⟨rfl, rfl⟩)
      go_ret
      exact ⟨rfl, rfl⟩
    · have H := Lib.hid (show loadE n a x = 6 by simp only [loadE, hw, if_true, if_neg hr])
      rw [H.out]
      by_cases h0 : a < 0
      · clear hw hx8 hr
        go_enter Tryz.func135, Tryz.ntmps135
        go_wp2_with (go_at_call 60; refine (wide_spec x _).mono ?_; rw [HW.out]; rintro e w' ⟨rfl, rfl⟩)
        go_ret
        exact ⟨rfl, rfl⟩
      · by_cases h1 : (n : Int) < x
        · clear hw hx8 hr
          go_enter Tryz.func135, Tryz.ntmps135
          go_wp2_with (go_at_call 60; refine (wide_spec x _).mono ?_; rw [HW.out]; rintro e w' ⟨rfl, rfl⟩)
          go_ret
          exact ⟨rfl, rfl⟩
        · have h2 : (n : Int) - x < a := by omega
          clear hw hx8 hr
          go_enter Tryz.func135, Tryz.ntmps135
          go_wp2_with (go_at_call 60; refine (wide_spec x _).mono ?_; rw [HW.out]; rintro e w' ⟨rfl, rfl⟩)
          go_ret
          exact ⟨rfl, rfl⟩
  · have hw' : isW x = false := by simpa using hw
    have H := Lib.hid (show loadE n a x = 2 by simp [loadE, hw'])
    have HW := Lib.hid hw'
    rw [H.out]
    clear hw hw'
    go_enter Tryz.func135, Tryz.ntmps135
    go_wp2_with (go_at_call 60; refine (wide_spec x _).mono ?_; rw [HW.out]; rintro e w' ⟨rfl, rfl⟩)
    go_ret
    exact ⟨rfl, rfl⟩

set_option maxRecDepth 100000 in
set_option maxHeartbeats 1000000 in
theorem rload_spec (A : Option Addr) (n c : Nat) (a x : Int) (l : List UInt8) (w : World) (hl : IsB w A n l) (hn : n ≤ 9223372036854775807) :
    Calls Tryz.prog 99 #[.slice A n c, .int .i64 a, .int .i64 x] w fun e w' => e = .returned (.tuple #[.int .u64 (loadU l a x), .int .i64 (loadE n a x)]) ∧ Below w.heap.size w w' := by
  have hlen := hl.1
  subst hlen
  rcases load_cases l a x with ⟨k, y, rfl, rfl, h1, h2, h3, h4, e1, e2⟩ | ⟨e1, e2, e3⟩
  · rw [e1, e2]
    have HL := Lib.hid hl
    have H2 := Lib.hid h2
    have E1 := Lib.hid e1
    generalize hp : (l.drop k).take y = p
    have hpl : p.length = y := by rw [← hp, List.length_take, List.length_drop]; omega
    have hpc : ∀ t, t < y → ∃ c : UInt8, p.drop t = c :: p.drop (t + 1) ∧ ∃ b off, A = some ⟨b, off, none⟩ ∧ w.cell? ⟨b, off + (k + t), none⟩ = some (.int .u8 (c.toNat : Int)) := by
      intro t ht
      obtain ⟨b, off, e, hk, hc⟩ := isb_at hl (k := k + t) (by omega)
      refine ⟨l[k + t], ?_, b, off, e, hc⟩
      rw [List.drop_eq_getElem_cons (by omega)]
      congr 1
      simp only [← hp]
      rw [List.getElem_take, List.getElem_drop]
    have HP := Lib.hid hpc
    have HPL := Lib.hid hpl
    clear hl e1 e2 h1 hp hpl hpc
    go_enter Tryz.func99, Tryz.ntmps99
    go_wp2_with (go_at_call 135; refine (look_spec A _ c _ _ _ hn).mono ?_; rw [E1.out]; rintro e w' ⟨rfl, rfl⟩)
    go_loopw [9, 10] (fun N i wr => ∃ t : Nat, t ≤ y ∧ i = .int .i64 ((t : Int) - 1) ∧ N = .int .u64 (leVal (p.drop t)) ∧ wr = w) (fun _ i _ => (intOf i + 1).toNat)
    case atStart => exact ⟨y, by omega, rfl, by rw [List.drop_eq_nil_of_le (by rw [HPL.out]; exact Nat.le_refl _)]; rfl, rfl⟩
    case round =>
      obtain ⟨t, ht, rfl, rfl, rfl⟩ := hrel
      rcases Nat.eq_zero_or_pos t with h0 | h0
      · subst h0
        go_wp2
        go_ret2
        exact ⟨rfl, Below.refl _ _⟩
      · obtain ⟨t, rfl⟩ : ∃ s, t = s + 1 := ⟨t - 1, by omega⟩
        obtain ⟨d, hd, b, off, rfl, hc⟩ := HP.out t (by omega)
        have hN : leVal (p.drop t) = d.toNat + 256 * leVal (p.drop (t + 1)) := by rw [hd]; rfl
        have hNb : leVal (p.drop (t + 1)) < 72057594037927936 := by
          have := leVal_lt (p.drop (t + 1))
          rw [List.length_drop, HPL.out] at this
          exact Nat.lt_of_lt_of_le this (Nat.pow_le_pow_right (by omega) (by omega : 8 * (y - (t + 1)) ≤ 56))
        have HN := Lib.hid hN
        clear hN hd
        generalize leVal (p.drop (t + 1)) = M at hNb HN
        have hd8 := d.toNat_lt
        go_wp2
        refine ⟨⟨t, by omega, rfl, ?_, trivial⟩, by simp [intOf]⟩
        rw [HN.out]
        congr 1
        first | (rw [u64_in (d.toNat : Int) (by omega), u64_in _ (by omega)]; omega) | omega
  · rw [e2]
    have HE := Lib.hid e1
    have hne : (loadE l.length a x != 0) = true := by simpa using e1
    clear hl e1 e2 e3
    go_enter Tryz.func99, Tryz.ntmps99
    go_wp2_with (go_at_call 135; refine (look_spec A _ c _ _ _ hn).mono ?_; rintro e w' ⟨rfl, rfl⟩)
    go_ret2
    exact ⟨rfl, Below.refl _ _⟩

theorem ret_t1 {k : IntKind} {a b : Int} {v : Value} (h : a = b) : Ending.returned (.tuple #[.int k a, v]) = .returned (.tuple #[.int k b, v]) := by rw [h]
/-- A number of so many bytes, read as signed. -/
def sx (w u : Nat) : Int := if u < 2 ^ (8 * w - 1) then u else (u : Int) - 2 ^ (8 * w)
/-- What LoadInt returns. -/
def loadI (l : List UInt8) (a w : Int) : Int := if isW w = true ∧ 0 ≤ a ∧ a + w ≤ l.length then sx w.toNat (loadU l a w) else 0
theorem loadU_lt (l : List UInt8) (a : Int) (x : Nat) : loadU l a x < 2 ^ (8 * x) := by
  unfold loadU
  split
  · refine Nat.lt_of_lt_of_le (leVal_lt _) (Nat.pow_le_pow_right (by omega) ?_)
    have := List.length_take_le x (l.drop a.toNat)
    simp only [Int.toNat_natCast]
    omega
  · exact Nat.two_pow_pos _
theorem wrap64_in (n : Int) (h : -9223372036854775808 ≤ n ∧ n ≤ 9223372036854775807) : wrap64 n = n := by unfold wrap64; omega

theorem load_spec2 (A : Option Addr) (n c : Nat) (a x : Int) (l : List UInt8) (w : World) (er : Int) (u : Nat) (hl : IsB w A n l) (hc : n ≤ c) (hn : n ≤ 9223372036854775807) (h1 : loadE n a x = er) (h2 : loadU l a x = u) :
    Calls Tryz.prog 87 #[.slice A n c, .int .i64 a, .int .i64 x] w fun e w' => e = .returned (.tuple #[.int .u64 u, .int .i64 er]) ∧ Below w.heap.size w w' := by
  subst h1 h2
  exact load_spec A n c a x l w hl hc hn
theorem rload_spec2 (A : Option Addr) (n c : Nat) (a x : Int) (l : List UInt8) (w : World) (er : Int) (u : Nat) (hl : IsB w A n l) (hn : n ≤ 9223372036854775807) (h1 : loadE n a x = er) (h2 : loadU l a x = u) :
    Calls Tryz.prog 99 #[.slice A n c, .int .i64 a, .int .i64 x] w fun e w' => e = .returned (.tuple #[.int .u64 u, .int .i64 er]) ∧ Below w.heap.size w w' := by
  subst h1 h2
  exact rload_spec A n c a x l w hl hn

set_option maxRecDepth 100000 in
set_option maxHeartbeats 1000000 in
theorem loadi_spec (A : Option Addr) (n c : Nat) (a x : Int) (l : List UInt8) (w : World) (hl : IsB w A n l) (hc : n ≤ c) (hn : n ≤ 9223372036854775807) :
    Calls Tryz.prog 105 #[.slice A n c, .int .i64 a, .int .i64 x] w fun e w' => e = .returned (.tuple #[.int .i64 (loadI l a x), .int .i64 (loadE n a x)]) ∧ Below w.heap.size w w' := by
  have hlen := hl.1
  subst hlen
  rcases load_cases l a x with ⟨k, y, rfl, rfl, h1, h2, h3, h4, e1, e2⟩ | ⟨e1, e2, e3⟩
  · have e3 : loadI l k y = sx y (loadU l k y) := by unfold loadI; rw [if_pos ⟨h1, by omega, by omega⟩]; rfl
    rw [e1, e3]
    have hb := loadU_lt l k y
    generalize hu : loadU l k y = u at hb
    have HU := Lib.hid hu
    clear hu
    have HL := Lib.hid hl
    have E1 := Lib.hid e1
    have h1' := isW_iff.1 h1
    clear hl e1 e2 e3
    have hy : y = 1 ∨ y = 2 ∨ y = 4 ∨ y = 8 := by omega
    clear h1 h1'
    rcases hy with rfl | rfl | rfl | rfl
    all_goals
      go_enter Tryz.func105, Tryz.ntmps105
      go_wp2_with (go_at_call 87; refine (load_spec2 A _ c _ _ l _ 0 u HL.out hc hn E1.out HU.out).mono ?_; rintro e w1 ⟨rfl, hb1⟩)
      go_ret2
      refine ⟨ret_t1 ?_, hb1⟩
      unfold sx wrap64
      simp only [Nat.reduceMul, Nat.reduceSub, Nat.reducePow] at hb ⊢
      split <;> omega
  · have e4 : loadI l a x = 0 := if_neg e3
    have hne : (loadE l.length a x != 0) = true := by simpa using e1
    rw [e4]
    have HL := Lib.hid hl
    have HU := Lib.hid e2
    clear hl e1 e2 e3 e4
    go_enter Tryz.func105, Tryz.ntmps105
    go_wp2_with (go_at_call 87; refine (load_spec2 A _ c _ _ l _ _ 0 HL.out hc hn rfl HU.out).mono ?_; rintro e w1 ⟨rfl, hb1⟩)
    go_ret2
    exact ⟨rfl, hb1⟩

set_option maxRecDepth 100000 in
set_option maxHeartbeats 1000000 in
theorem rloadi_spec (A : Option Addr) (n c : Nat) (a x : Int) (l : List UInt8) (w : World) (hl : IsB w A n l) (hn : n ≤ 9223372036854775807) :
    Calls Tryz.prog 111 #[.slice A n c, .int .i64 a, .int .i64 x] w fun e w' => e = .returned (.tuple #[.int .i64 (loadI l a x), .int .i64 (loadE n a x)]) ∧ Below w.heap.size w w' := by
  have hlen := hl.1
  subst hlen
  rcases load_cases l a x with ⟨k, y, rfl, rfl, h1, h2, h3, h4, e1, e2⟩ | ⟨e1, e2, e3⟩
  · have e3 : loadI l k y = sx y (loadU l k y) := by unfold loadI; rw [if_pos ⟨h1, by omega, by omega⟩]; rfl
    rw [e1, e3]
    have hb := loadU_lt l k y
    generalize hu : loadU l k y = u at hb
    have HU := Lib.hid hu
    clear hu
    have HL := Lib.hid hl
    have E1 := Lib.hid e1
    have h1' := isW_iff.1 h1
    clear hl e1 e2 e3
    have hy : y = 1 ∨ y = 2 ∨ y = 4 ∨ y = 8 := by omega
    clear h1 h1'
    rcases hy with rfl | rfl | rfl | rfl
    · simp only [Nat.reduceMul, Nat.reducePow] at hb
      have HBN := Lib.hid hb
      by_cases ht : u < 128
      · have hd : decide ((128 : Int) ≤ (u : Int)) = false := by simp; omega
        have HT := Lib.hid (show (u : Int) = sx 1 u by unfold sx; simp only [Nat.reduceMul, Nat.reduceSub, Nat.reducePow]; rw [if_pos ht])
        have HW := Lib.hid (wrap64_in (u : Int) (by omega))
        clear hb ht HBN
        go_enter Tryz.func111, Tryz.ntmps111
        go_wp2_with fail
        refine (rload_spec2 A _ c _ _ l _ 0 u HL.out hn E1.out HU.out).mono ?_
        rintro e w1 ⟨rfl, hb1⟩
        have hw := HW.out
        go_wp2_with fail
        go_ret2
        exact ⟨ret_t1 (HW.out.trans HT.out), hb1⟩
      · have hd : decide ((128 : Int) ≤ (u : Int)) = true := by simp; omega
        have HT := Lib.hid (show (u : Int) - 256 = sx 1 u by unfold sx; simp only [Nat.reduceMul, Nat.reduceSub, Nat.reducePow]; rw [if_neg ht]; rfl)
        have HW := Lib.hid (wrap64_in (u : Int) (by omega))
        have HV := Lib.hid (wrap64_in ((u : Int) - 256) (by omega))
        clear hb ht HBN
        go_enter Tryz.func111, Tryz.ntmps111
        go_wp2_with fail
        refine (rload_spec2 A _ c _ _ l _ 0 u HL.out hn E1.out HU.out).mono ?_
        rintro e w1 ⟨rfl, hb1⟩
        have hw := HW.out
        go_wp2_with fail
        go_ret2
        exact ⟨ret_t1 (HV.out.trans HT.out), hb1⟩
    · simp only [Nat.reduceMul, Nat.reducePow] at hb
      have HBN := Lib.hid hb
      by_cases ht : u < 32768
      · have hd : decide ((32768 : Int) ≤ (u : Int)) = false := by simp; omega
        have HT := Lib.hid (show (u : Int) = sx 2 u by unfold sx; simp only [Nat.reduceMul, Nat.reduceSub, Nat.reducePow]; rw [if_pos ht])
        have HW := Lib.hid (wrap64_in (u : Int) (by omega))
        clear hb ht HBN
        go_enter Tryz.func111, Tryz.ntmps111
        go_wp2_with fail
        refine (rload_spec2 A _ c _ _ l _ 0 u HL.out hn E1.out HU.out).mono ?_
        rintro e w1 ⟨rfl, hb1⟩
        have hw := HW.out
        go_wp2_with fail
        go_ret2
        exact ⟨ret_t1 (HW.out.trans HT.out), hb1⟩
      · have hd : decide ((32768 : Int) ≤ (u : Int)) = true := by simp; omega
        have HT := Lib.hid (show (u : Int) - 65536 = sx 2 u by unfold sx; simp only [Nat.reduceMul, Nat.reduceSub, Nat.reducePow]; rw [if_neg ht]; rfl)
        have HW := Lib.hid (wrap64_in (u : Int) (by omega))
        have HV := Lib.hid (wrap64_in ((u : Int) - 65536) (by omega))
        clear hb ht HBN
        go_enter Tryz.func111, Tryz.ntmps111
        go_wp2_with fail
        refine (rload_spec2 A _ c _ _ l _ 0 u HL.out hn E1.out HU.out).mono ?_
        rintro e w1 ⟨rfl, hb1⟩
        have hw := HW.out
        go_wp2_with fail
        go_ret2
        exact ⟨ret_t1 (HV.out.trans HT.out), hb1⟩
    · simp only [Nat.reduceMul, Nat.reducePow] at hb
      have HBN := Lib.hid hb
      by_cases ht : u < 2147483648
      · have hd : decide ((2147483648 : Int) ≤ (u : Int)) = false := by simp; omega
        have HT := Lib.hid (show (u : Int) = sx 4 u by unfold sx; simp only [Nat.reduceMul, Nat.reduceSub, Nat.reducePow]; rw [if_pos ht])
        have HW := Lib.hid (wrap64_in (u : Int) (by omega))
        clear hb ht HBN
        go_enter Tryz.func111, Tryz.ntmps111
        go_wp2_with fail
        refine (rload_spec2 A _ c _ _ l _ 0 u HL.out hn E1.out HU.out).mono ?_
        rintro e w1 ⟨rfl, hb1⟩
        have hw := HW.out
        go_wp2_with fail
        go_ret2
        exact ⟨ret_t1 (HW.out.trans HT.out), hb1⟩
      · have hd : decide ((2147483648 : Int) ≤ (u : Int)) = true := by simp; omega
        have HT := Lib.hid (show (u : Int) - 4294967296 = sx 4 u by unfold sx; simp only [Nat.reduceMul, Nat.reduceSub, Nat.reducePow]; rw [if_neg ht]; rfl)
        have HW := Lib.hid (wrap64_in (u : Int) (by omega))
        have HV := Lib.hid (wrap64_in ((u : Int) - 4294967296) (by omega))
        clear hb ht HBN
        go_enter Tryz.func111, Tryz.ntmps111
        go_wp2_with fail
        refine (rload_spec2 A _ c _ _ l _ 0 u HL.out hn E1.out HU.out).mono ?_
        rintro e w1 ⟨rfl, hb1⟩
        have hw := HW.out
        go_wp2_with fail
        go_ret2
        exact ⟨ret_t1 (HV.out.trans HT.out), hb1⟩
    · simp only [Nat.reduceMul, Nat.reducePow] at hb
      have HT := Lib.hid (show wrap64 (u : Int) = sx 8 u by unfold sx wrap64; simp only [Nat.reduceMul, Nat.reduceSub, Nat.reducePow]; split <;> omega)
      clear hb
      go_enter Tryz.func111, Tryz.ntmps111
      go_wp2_with fail
      refine (rload_spec2 A _ c _ _ l _ 0 u HL.out hn E1.out HU.out).mono ?_
      rintro e w1 ⟨rfl, hb1⟩
      go_wp2_with fail
      go_ret2
      exact ⟨ret_t1 HT.out, hb1⟩
  · have e4 : loadI l a x = 0 := if_neg e3
    have hne : (loadE l.length a x != 0) = true := by simpa using e1
    rw [e4]
    have HL := Lib.hid hl
    have HU := Lib.hid e2
    clear hl e1 e2 e3 e4
    go_enter Tryz.func111, Tryz.ntmps111
    go_wp2_with (go_at_call 99; refine (rload_spec2 A _ c _ _ l _ _ 0 HL.out hn rfl HU.out).mono ?_; rintro e w1 ⟨rfl, hb1⟩)
    go_ret2
    exact ⟨rfl, hb1⟩

end Go.Proofs.YtejalfjeihlpeaaGreat
