/-
  Packages tag and width and their references: the walks.
  Package fit: whether a value fits, One.
  Package ref and its reference: Inside, isWidth, Same.
  Package ref and its reference: Kind, May.
-/
import Derived.Test.YtfoifdoaleaekaaGreatQa11
import Derived.Laws.EntriesVeiled
namespace Go.Proofs.YtfoifdoaleaekaaGreat
open Go.RowKit Go.Acc
def rowV (r : Int × Int × Int) : Value := .agg #[.int .i64 r.1, .int .i64 r.2.1, .int .i64 r.2.2]
theorem tindex {t : Int} (ht : isT t = true) : ∀ w, (Instr.index 136 (.agg tCells) (.int .i64 t)).run Tryz.prog w = .ok (rowV (tRow t)) w := by
  have h : ∀ n : Fin 37, ∀ w, (Instr.index 136 (.agg tCells) (.int .i64 ((n.val : Nat) : Int))).run Tryz.prog w = .ok (rowV (tRow ((n.val : Nat) : Int))) w := by
    intro n
    rcases n with ⟨n, hn⟩
    have : n = 0 ∨ n = 1 ∨ n = 2 ∨ n = 3 ∨ n = 4 ∨ n = 5 ∨ n = 6 ∨ n = 7 ∨ n = 8 ∨ n = 9 ∨ n = 10 ∨ n = 11 ∨ n = 12 ∨ n = 13 ∨ n = 14 ∨ n = 15 ∨ n = 16 ∨ n = 17 ∨ n = 18 ∨ n = 19 ∨ n = 20 ∨ n = 21 ∨ n = 22 ∨ n = 23 ∨ n = 24 ∨ n = 25 ∨ n = 26 ∨ n = 27 ∨ n = 28 ∨ n = 29 ∨ n = 30 ∨ n = 31 ∨ n = 32 ∨ n = 33 ∨ n = 34 ∨ n = 35 ∨ n = 36 := by omega
    rcases this with rfl | rfl | rfl | rfl | rfl | rfl | rfl | rfl | rfl | rfl | rfl | rfl | rfl | rfl | rfl | rfl | rfl | rfl | rfl | rfl | rfl | rfl | rfl | rfl | rfl | rfl | rfl | rfl | rfl | rfl | rfl | rfl | rfl | rfl | rfl | rfl | rfl
    all_goals
      intro w
      kernel_rfl
  exact t37_all (p := fun t => ∀ w, (Instr.index 136 (.agg tCells) (.int .i64 t)).run Tryz.prog w = .ok (rowV (tRow t)) w) h ht
set_option maxHeartbeats 400000 in
theorem tof_spec (t : Int) (w : World) : Calls Tryz.prog 48 #[.int .i64 t] w fun e w' => e = .returned (rowV (tRow t)) ∧ Below w.heap.size w w' := by
  cases ht : isT t with
  | true =>
    have hb := isT_iff.1 ht
    have hb0 := hb.1
    have hb1 := hb.2
    have hidx := tindex ht
    have HR := Lib.hid (show True from trivial)
    obtain ⟨r, hr⟩ : ∃ r, tRow t = r := ⟨_, rfl⟩
    obtain ⟨r0, r1, r2⟩ := r
    rw [hr] at hidx ⊢
    unfold rowV at hidx ⊢
    clear hb hr ht
    go_enter Tryz.func48, Tryz.ntmps48
    go_wp2_with fail
    go_at_call 87
    refine (tkinds_spec _).mono ?_
    rintro e w1 ⟨rfl, hb⟩
    have HK := Lib.hid ((Blk.new w 87 #[.int .i64 0, .int .i64 0, .int .i64 0]).pure hb)
    have HB := Lib.hid (pure_trans ((Below.refl w.heap.size w).alloc (Nat.le_refl _) _) hb)
    have c0 := (HK.out.cell 0).trans (show _ = some (Value.int .i64 0) from rfl)
    have c1 := (HK.out.cell 1).trans (show _ = some (Value.int .i64 0) from rfl)
    have c2 := (HK.out.cell 2).trans (show _ = some (Value.int .i64 0) from rfl)
    have f0 := HK.out.frozen 0
    have f1 := HK.out.frozen 1
    have f2 := HK.out.frozen 2
    clear hb
    go_wp2
    refine bodyPost_ret (v := .agg #[.int .i64 r0, .int .i64 r1, .int .i64 r2]) (by simp [results, Tryz.results48, go_sem, c0, c1, c2]) rfl ⟨rfl, ?_⟩
    exact ((HB.out.setCell (Nat.le_refl _) _).setCell (Nat.le_refl _) _).setCell (Nat.le_refl _) _
  | false =>
    rw [tRow_no ht]
    have hb : t < 0 ∨ 37 ≤ t := by
      have : ¬ (0 ≤ t ∧ t < 37) := by rw [← isT_iff, ht]; simp
      omega
    clear ht
    rcases hb with hb | hb
    · go_enter Tryz.func48, Tryz.ntmps48
      go_wp2
      refine bodyPost_ret (v := rowV (0, 0, 0)) (by simp [results, Tryz.results48, go_sem, rowV]) rfl ⟨rfl, ?_⟩
      exact (Below.refl _ _).alloc (Nat.le_refl _) _
    · have h0 : ¬ t < 0 := by omega
      go_enter Tryz.func48, Tryz.ntmps48
      go_wp2
      refine bodyPost_ret (v := rowV (0, 0, 0)) (by simp [results, Tryz.results48, go_sem, rowV]) rfl ⟨rfl, ?_⟩
      exact (Below.refl _ _).alloc (Nat.le_refl _) _

theorem tfield0 (a b c : Int) (w : World) : (Instr.field 87 (.agg #[.int .i64 a, .int .i64 b, .int .i64 c]) 0).run Tryz.prog w = .ok (.int .i64 a) w := by kernel_rfl
theorem tfield1 (a b c : Int) (w : World) : (Instr.field 87 (.agg #[.int .i64 a, .int .i64 b, .int .i64 c]) 1).run Tryz.prog w = .ok (.int .i64 b) w := by kernel_rfl
theorem tfield2 (a b c : Int) (w : World) : (Instr.field 87 (.agg #[.int .i64 a, .int .i64 b, .int .i64 c]) 2).run Tryz.prog w = .ok (.int .i64 c) w := by kernel_rfl
theorem tof_spec2 (t r0 r1 r2 : Int) (w : World) (h : tRow t = (r0, r1, r2)) : Calls Tryz.prog 48 #[.int .i64 t] w fun e w' => e = .returned (.agg #[.int .i64 r0, .int .i64 r1, .int .i64 r2]) ∧ Below w.heap.size w w' := by
  have := tof_spec t w
  rw [h] at this
  exact this
set_option maxRecDepth 100000 in
set_option maxHeartbeats 400000 in
theorem legal_spec (t : Int) (w : World) : Calls Tryz.prog 44 #[.int .i64 t] w fun e w' => e = .returned (.bool (legalT t)) ∧ Below w.heap.size w w' := by
  unfold legalT
  obtain ⟨r, hr⟩ : ∃ r, tRow t = r := ⟨_, rfl⟩
  obtain ⟨r0, r1, r2⟩ := r
  have HR := Lib.hid hr
  rw [hr]
  clear hr
  have hf0 := tfield0
  have hf1 := tfield1
  have hf2 := tfield2
  go_enter Tryz.func44, Tryz.ntmps44
  go_wp2_with fail
  go_at_call 48
  refine (tof_spec2 t r0 r1 r2 _ HR.out).mono ?_
  rintro e w1 ⟨rfl, hb⟩
  have HB := Lib.hid hb
  clear hb
  go_wp2
  go_ret
  exact ⟨rfl, HB.out⟩
set_option maxRecDepth 100000 in
set_option maxHeartbeats 400000 in
theorem inline_spec (t : Int) (w : World) : Calls Tryz.prog 17 #[.int .i64 t] w fun e w' => e = .returned (.bool (inlineT t)) ∧ Below w.heap.size w w' := by
  unfold inlineT
  obtain ⟨r, hr⟩ : ∃ r, tRow t = r := ⟨_, rfl⟩
  obtain ⟨r0, r1, r2⟩ := r
  have HR := Lib.hid hr
  rw [hr]
  clear hr
  have hf0 := tfield0
  have hf1 := tfield1
  have hf2 := tfield2
  go_enter Tryz.func17, Tryz.ntmps17
  go_wp2_with fail
  go_at_call 48
  refine (tof_spec2 t r0 r1 r2 _ HR.out).mono ?_
  rintro e w1 ⟨rfl, hb⟩
  have HB := Lib.hid hb
  clear hb
  go_wp2
  go_ret
  exact ⟨rfl, HB.out⟩
theorem pow_wrap (n : Nat) : wrap64 ((2 : Int) ^ (n % 4)) = 2 ^ (n % 4) := by
  have : n % 4 = 0 ∨ n % 4 = 1 ∨ n % 4 = 2 ∨ n % 4 = 3 := by omega
  rcases this with e | e | e | e <;> rw [e] <;> unfold wrap64 <;> simp only [Int.reducePow] <;> omega
set_option maxHeartbeats 400000 in
theorem unpack_spec (c : UInt8) (w : World) : Calls Tryz.prog 42 #[.int .u8 (c.toNat : Int)] w fun e w' => e = .returned (.tuple #[.int .i64 (unT c), .int .i64 (unW c), .int .i64 (unE c)]) ∧ Below w.heap.size w w' := by
  have hc := c.toNat_lt
  have hq : IntKind.u8.wrap ((c.toNat : Int) / 4) = (c.toNat : Int) / 4 := by rw [IntKind.wrap_u8]; omega
  cases hl : legalT ((c.toNat : Int) / 4) with
  | true =>
    have HL := Lib.hid hl
    have h1 : unT c = (c.toNat : Int) / 4 := by unfold unT; rw [if_pos hl]
    have h2 : unW c = 2 ^ (c.toNat % 4) := by unfold unW; rw [if_pos hl]
    have h3 : unE c = 0 := by unfold unE; rw [if_pos hl]
    rw [h1, h2, h3]
    clear hl h1 h2 h3
    go_enter Tryz.func42, Tryz.ntmps42
    go_wp2_with fail
    go_at_call 44
    refine (legal_spec _ _).mono ?_
    rw [HL.out]
    rintro e w1 ⟨rfl, hb⟩
    have HB := Lib.hid hb
    clear hb
    go_wp2
    rw [pow_wrap]
    go_ret3
    exact ⟨rfl, HB.out⟩
  | false =>
    have HL := Lib.hid hl
    have h1 : unT c = 0 := by unfold unT; rw [hl]; rfl
    have h2 : unW c = 0 := by unfold unW; rw [hl]; rfl
    have h3 : unE c = 20 := by unfold unE; rw [hl]; rfl
    rw [h1, h2, h3]
    clear hl h1 h2 h3
    go_enter Tryz.func42, Tryz.ntmps42
    go_wp2_with fail
    go_at_call 44
    refine (legal_spec _ _).mono ?_
    rw [HL.out]
    rintro e w1 ⟨rfl, hb⟩
    have HB := Lib.hid hb
    clear hb
    go_wp2
    go_ret3
    exact ⟨rfl, HB.out⟩

end Go.Proofs.YtfoifdoaleaekaaGreat

namespace Go.Proofs.YtfoifdoaleaekaaGreat
open Go.RowKit Go.Acc
theorem up_tdiv (a y : Nat) (hy : 0 < y) : ((a : Int) + y - 1).tdiv y * y = (upN a y : Nat) := by
  unfold upN
  rw [show (a : Int) + y - 1 = ((a + y - 1 : Nat) : Int) by omega, Int.tdiv_eq_ediv_of_nonneg (by omega), ← Int.natCast_ediv, ← Int.natCast_mul]
theorem up_bd (a y : Nat) (hy : 0 < y) : a ≤ upN a y ∧ upN a y ≤ a + y := by
  have h := Nat.div_add_mod (a + y - 1) y
  have h2 := Nat.mod_lt (a + y - 1) hy
  unfold upN
  rw [Nat.mul_comm] at h
  constructor <;> omega
set_option maxHeartbeats 1000000 in
theorem ffits_is (v : Bv) (a i y : Nat) (r : Bool) (w : World) (hy : isW (y : Int) = true) (ha : a ≤ 1048576) (hi : i ≤ 1048576) (hr : fitsV v a i y = r) :
    Calls Tryz.prog 193 #[.agg #[.int .i64 (v.t : Int), .int .i64 (v.w : Int), .int .u64 (v.n : Int)], .int .i64 (a : Int), .int .i64 (i : Int), .int .i64 (y : Int)] w fun e w' => e = .returned (.bool r) ∧ Below w.heap.size w w' := by
  have hB := (Below.refl w.heap.size w).alloc (Nat.le_refl _) (.cells #[.int .i64 (v.t : Int), .int .i64 (v.w : Int), .int .u64 (v.n : Int)] 185)
  have HB := Lib.hid hB
  have hy8 : 1 ≤ y ∧ y ≤ 8 := by have := w_cases hy; omega
  clear hB hy
  have hX := Blk.new w 185 #[.int .i64 (v.t : Int), .int .i64 (v.w : Int), .int .u64 (v.n : Int)]
  cases hin : inl v.t with
  | true =>
    have HI := Lib.hid (show inlineT (v.t : Int) = true from hin)
    have HR := Lib.hid (show decide (v.w ≤ y) = r by rw [← hr]; unfold fitsV; rw [if_pos hin])
    clear hr hin
    have HX := Lib.hid hX
    clear hX
    go_enter Tryz.func193, Tryz.ntmps193
    go_wp2_with fail
    go_at_call 17
    refine (inline_spec (v.t : Int) _).mono ?_
    rw [HI.out]
    rintro e w' ⟨rfl, hb⟩
    have HK := Lib.hid (HX.out.pure hb)
    have x1 : w'.cell? ⟨w.heap.size, 1, none⟩ = some (.int .i64 (v.w : Int)) := HK.out.cell 1
    have HB2 := Lib.hid (pure_below HB.out hb)
    clear hb
    go_wp2_with fail
    go_ret
    exact ⟨ret_bool HR.out, HB2.out⟩
  | false =>
    have HI := Lib.hid (show inlineT (v.t : Int) = false from hin)
    have hne : ¬ inl v.t = true := by rw [hin]; decide
    have hr' : decide (v.n ≤ a ∧ bWidth (upN a y + i * y - v.n) ≤ y) = r := by rw [← hr]; unfold fitsV; rw [if_neg hne]
    have HX := Lib.hid hX
    clear hr hin hne hX
    by_cases hna : v.n ≤ a
    · obtain ⟨hu1, hu2⟩ := up_bd a y (by omega)
      have hiy : i * y ≤ 1048576 * 8 := Nat.mul_le_mul hi hy8.2
      obtain ⟨u, hu⟩ : ∃ u, upN a y = u := ⟨_, rfl⟩
      obtain ⟨q, hq⟩ : ∃ q : Nat, i * y = q := ⟨_, rfl⟩
      have ht := up_tdiv a y (by omega)
      rw [hu] at ht hu1 hu2 hr'
      rw [hq] at hiy hr'
      obtain ⟨d, hd⟩ : ∃ d, u + q - v.n = d := ⟨_, rfl⟩
      rw [hd] at hr'
      obtain ⟨p, hp⟩ : ∃ p : Nat, ((a : Int) + y - 1).tdiv y = p := ⟨(a + y - 1) / y, by rw [show (a : Int) + y - 1 = ((a + y - 1 : Nat) : Int) by omega, Int.tdiv_eq_ediv_of_nonneg (by omega)]; rfl⟩
      rw [hp] at ht
      have hp9 : p ≤ u := by
        have : (p : Int) * y = ((p * y : Nat) : Int) := by simp
        rw [this] at ht
        have h3 : p * y = u := by exact_mod_cast ht
        have : p * 1 ≤ p * y := Nat.mul_le_mul_left p (by omega)
        omega
      have HR := Lib.hid (show decide (bWidth d ≤ y) = r by rw [← hr']; exact decide_eq_decide.2 ⟨fun h => ⟨hna, h⟩, fun h => h.2⟩)
      have e1 : IntKind.i64.wrap ((a : Int) + y) = (a : Int) + y := IntWalk.i64_in _ (by omega)
      have e2 : IntKind.i64.wrap ((a : Int) + y - 1) = (a : Int) + y - 1 := IntWalk.i64_in _ (by omega)
      have e3 : IntKind.i64.wrap (p : Int) = p := IntWalk.i64_in _ (by omega)
      have hiq : (i : Int) * (y : Int) = (q : Int) := by rw [← hq]; simp
      have e4 : IntKind.i64.wrap (u : Int) = u := IntWalk.i64_in _ (by omega)
      have e5 : IntKind.i64.wrap (q : Int) = q := IntWalk.i64_in _ (by omega)
      have e6 : IntKind.i64.wrap ((u : Int) + q) = (u : Int) + q := IntWalk.i64_in _ (by omega)
      have e7 : IntKind.u64.wrap ((u : Int) + q) = (u : Int) + q := u64_in _ (by omega)
      have e8 : (u : Int) + q - v.n = d := by omega
      have e9 : IntKind.u64.wrap (d : Int) = d := u64_in _ (by omega)
      have e10 : IntKind.u64.wrap (a : Int) = a := u64_in _ (by omega)
      have hyn : ¬ y = 0 := by omega
      have HWD := Lib.hid (show wdU d = (bWidth d : Nat) from wdU_b d)
      have hd64 : d < 18446744073709551616 := by omega
      obtain ⟨bd, hbd⟩ : ∃ x, bWidth d = x := ⟨_, rfl⟩
      rw [hbd] at HR HWD
      have hgt : decide ((a : Int) < (v.n : Int)) = false := decide_eq_false (by omega)
      have hgt' : decide (a < v.n) = false := decide_eq_false (by omega)
      have HH := Lib.hid (And.intro hd64 hbd)
      clear hr' hu hq hd hd64 hbd hna hp9 hu1 hu2 hiy
      go_enter Tryz.func193, Tryz.ntmps193
      go_wp2_with fail
      go_at_call 17
      refine (inline_spec (v.t : Int) _).mono ?_
      rw [HI.out]
      rintro e w' ⟨rfl, hb⟩
      have HK := Lib.hid (HX.out.pure hb)
      have x2 : w'.cell? ⟨w.heap.size, 2, none⟩ = some (.int .u64 (v.n : Int)) := HK.out.cell 2
      have HB2 := Lib.hid (pure_below HB.out hb)
      clear hb
      go_wp2_with fail
      go_at_call 215
      refine (wof_is d bd _ HH.out.1 HWD.out).mono ?_
      rintro e w1 ⟨rfl, rfl⟩
      clear ht hp e1 e2 e3 hiq e4 e5 e6 e7 e8 e9 e10 hyn hgt hgt' x2
      go_wp2_with fail
      go_ret
      exact ⟨ret_bool HR.out, HB2.out⟩
    · have HR := Lib.hid (show false = r by rw [← hr', decide_eq_false]; exact fun h => hna h.1)
      have hgt : decide (a < v.n) = true := decide_eq_true (by omega)
      have e10 : IntKind.u64.wrap (a : Int) = a := u64_in _ (by omega)
      clear hr' hna
      go_enter Tryz.func193, Tryz.ntmps193
      go_wp2_with fail
      go_at_call 17
      refine (inline_spec (v.t : Int) _).mono ?_
      rw [HI.out]
      rintro e w' ⟨rfl, hb⟩
      have HK := Lib.hid (HX.out.pure hb)
      have x2 : w'.cell? ⟨w.heap.size, 2, none⟩ = some (.int .u64 (v.n : Int)) := HK.out.cell 2
      have HB2 := Lib.hid (pure_below HB.out hb)
      clear hb
      go_wp2_with fail
      go_ret
      exact ⟨ret_bool HR.out, HB2.out⟩
theorem pow4_is (y : Fin 4) : isW ((2 ^ y.val : Nat) : Int) = true := by
  have h : ∀ y : Fin 4, isW ((2 ^ y.val : Nat) : Int) = true := by decide
  exact h y
set_option maxHeartbeats 1000000 in
theorem one1_spec (v : Bv) (a i y bv ba bi : Nat) (w : World) (hv : Blk w bv 185 #[.int .i64 (v.t : Int), .int .i64 (v.w : Int), .int .u64 (v.n : Int)]) (ha : Blk w ba 3 #[.int .i64 (a : Int)]) (hi : Blk w bi 3 #[.int .i64 (i : Int)])
    (hy : isW (y : Int) = true) (ha2 : a ≤ 1048576) (hi2 : i ≤ 1048576) :
    Calls Tryz.prog 192 #[.int .i64 (y : Int), .pointer (some ⟨bv, 0, none⟩), .pointer (some ⟨ba, 0, none⟩), .pointer (some ⟨bi, 0, none⟩)] w fun e w' => e = .returned (.bool (fitsV v a i y)) ∧ Below w.heap.size w w' := by
  obtain ⟨r, hr⟩ : ∃ r, fitsV v a i y = r := ⟨_, rfl⟩
  rw [hr]
  have HF := Lib.hid (ffits_is v a i y r w hy ha2 hi2 hr)
  have v0 : w.cell? ⟨bv, 0, none⟩ = some (.int .i64 (v.t : Int)) := hv.cell 0
  have v1 : w.cell? ⟨bv, 1, none⟩ = some (.int .i64 (v.w : Int)) := hv.cell 1
  have v2 : w.cell? ⟨bv, 2, none⟩ = some (.int .u64 (v.n : Int)) := hv.cell 2
  have a0 : w.cell? ⟨ba, 0, none⟩ = some (.int .i64 (a : Int)) := ha.cell 0
  have i0 : w.cell? ⟨bi, 0, none⟩ = some (.int .i64 (i : Int)) := hi.cell 0
  clear hv ha hi hy ha2 hi2 hr
  go_enter Tryz.func192, Tryz.ntmps192
  go_wp2_with fail
  go_at_call 193
  refine HF.out.mono ?_
  rintro e w' ⟨rfl, hb⟩
  have HB := Lib.hid hb
  clear hb v0 v1 v2 a0 i0
  go_wp2_with fail
  go_ret
  exact ⟨rfl, HB.out⟩
set_option maxHeartbeats 1000000 in
theorem one_spec (v : Bv) (a i : Nat) (w : World) (ha2 : a ≤ 1048576) (hi2 : i ≤ 1048576) :
    Calls Tryz.prog 128 #[.agg #[.int .i64 (v.t : Int), .int .i64 (v.w : Int), .int .u64 (v.n : Int)], .int .i64 (a : Int), .int .i64 (i : Int)] w fun e w' => e = .returned (.int .i64 (leastW (fitsV v a i) : Nat)) ∧ Below w.heap.size w w' := by
  have HB := Lib.hid (show Below w.heap.size w (((w.alloc (.cells #[.int .i64 (v.t : Int), .int .i64 (v.w : Int), .int .u64 (v.n : Int)] 185)).alloc (.cells #[.int .i64 (a : Int)] 3)).alloc (.cells #[.int .i64 (i : Int)] 3)) from (((Below.refl _ _).alloc (Nat.le_refl _) _).alloc (by simp) _).alloc (by simp; omega) _)
  have HX := Lib.hid (((Blk.new w 185 #[.int .i64 (v.t : Int), .int .i64 (v.w : Int), .int .u64 (v.n : Int)]).alloc (.cells #[.int .i64 (a : Int)] 3)).alloc (.cells #[.int .i64 (i : Int)] 3))
  have HY := Lib.hid ((blk_new2 w (.cells #[.int .i64 (v.t : Int), .int .i64 (v.w : Int), .int .u64 (v.n : Int)] 185) 3 #[.int .i64 (a : Int)]).alloc (.cells #[.int .i64 (i : Int)] 3))
  have HZ := Lib.hid (blk_new2 (w.alloc (.cells #[.int .i64 (v.t : Int), .int .i64 (v.w : Int), .int .u64 (v.n : Int)] 185)) (.cells #[.int .i64 (a : Int)] 3) 3 #[.int .i64 (i : Int)])
  have e : (w.alloc (.cells #[.int .i64 (v.t : Int), .int .i64 (v.w : Int), .int .u64 (v.n : Int)] 185)).heap.size + 1 = w.heap.size + 1 + 1 := by simp
  rw [e] at HZ
  obtain ⟨r, hr⟩ : ∃ r, leastW (fitsV v a i) = r := ⟨_, rfl⟩
  have HRR := Lib.hid hr
  rw [hr]
  have HA := Lib.hid (And.intro ha2 hi2)
  clear e hr
  go_enter Tryz.func128, Tryz.ntmps128
  go_wp2_with fail
  go_at_call 190
  refine (fwithin_spec a _ (by omega)).mono ?_
  rintro e w' ⟨rfl, rfl⟩
  go_wp2_with fail
  go_at_call 190
  refine (fwithin_spec i _ (by omega)).mono ?_
  rintro e w' ⟨rfl, rfl⟩
  go_wp2_with fail
  go_at_call 191
  generalize (((w.alloc (.cells #[.int .i64 (v.t : Int), .int .i64 (v.w : Int), .int .u64 (v.n : Int)] 185)).alloc (.cells #[.int .i64 (a : Int)] 3)).alloc (.cells #[.int .i64 (i : Int)] 3)) = w1 at HB HX HY HZ ⊢
  generalize w.heap.size + 1 + 1 = bi at HZ ⊢
  generalize w.heap.size + 1 = ba at HY ⊢
  have HF := fun (y : Fin 4) (W : World) (hW : Below w1.heap.size w1 W) => one1_spec v a i (2 ^ y.val) w.heap.size ba bi W (HX.out.pure hW) (HY.out.pure hW) (HZ.out.pure hW) (pow4_is y) HA.out.1 HA.out.2
  refine (least_spec 192 #[.pointer (some ⟨w.heap.size, 0, none⟩), .pointer (some ⟨ba, 0, none⟩), .pointer (some ⟨bi, 0, none⟩)] (fitsV v a i) w1 Tryz.call192 HF).mono ?_
  rw [HRR.out]
  rintro e w' ⟨rfl, hb⟩
  have HB2 := Lib.hid (pure_below HB.out hb)
  clear hb
  go_wp2_with fail
  go_ret
  exact ⟨rfl, HB2.out⟩
end Go.Proofs.YtfoifdoaleaekaaGreat

namespace Go.Proofs.YtfoifdoaleaekaaGreat
open Go.RowKit Go.Acc
def codeE (x : Int) : Int := if isW x = true then 0 else 2
def codeW (x : Int) : Int := if x = 2 then 1 else if x = 4 then 2 else if x = 8 then 3 else 0
set_option maxHeartbeats 1000000 in
theorem code_spec (x : Int) (w : World) : Calls Tryz.prog 84 #[.int .i64 x] w fun e w' => e = .returned (.tuple #[.int .i64 (codeW x), .int .i64 (codeE x)]) ∧ w = w' := by
  cases hw : isW x with
  | true =>
    have hx := isW_iff.1 hw
    clear hw
    rcases hx with rfl | rfl | rfl | rfl
    all_goals
      go_enter Tryz.func84, Tryz.ntmps84
      go_wp2
      refine wp_loop_rounds 5 ?_
      repeat (rw [rounds_succ]; go_wp2)
      go_ret2
      exact ⟨rfl, rfl⟩
  | false =>
    have hx := isW_no.1 hw
    have H1 := Lib.hid (show codeW x = 0 by unfold codeW; rw [if_neg hx.2.1, if_neg hx.2.2.1, if_neg hx.2.2.2])
    have H2 := Lib.hid (show codeE x = 2 by unfold codeE; rw [hw]; rfl)
    rw [H1.out, H2.out]
    have e1 : (x == 1) = false := beq_eq_false_iff_ne.mpr hx.1
    have e2 : (x == 2) = false := beq_eq_false_iff_ne.mpr hx.2.1
    have e4 : (x == 4) = false := beq_eq_false_iff_ne.mpr hx.2.2.1
    have e8 : (x == 8) = false := beq_eq_false_iff_ne.mpr hx.2.2.2
    clear hx hw
    go_enter Tryz.func84, Tryz.ntmps84
    go_wp2
    refine wp_loop_rounds 5 ?_
    repeat (rw [rounds_succ]; go_wp2)
    go_ret2
    exact ⟨rfl, rfl⟩
theorem codeE_no {x : Int} (h : isW x = false) : codeE x = 2 := by unfold codeE; rw [h]; rfl
theorem codeE_yes {x : Int} (h : isW x = true) : codeE x = 0 := by unfold codeE; rw [h]; rfl
set_option maxHeartbeats 400000 in
theorem iswidth_spec (x : Int) (w : World) : Calls Tryz.prog 41 #[.int .i64 x] w fun e w' => e = .returned (.bool (isW x)) ∧ w = w' := by
  cases hw : isW x with
  | true =>
    have H := Lib.hid (codeE_yes hw)
    clear hw
    go_enter Tryz.func41, Tryz.ntmps41
    go_wp2_with fail
    go_at_call 84
    refine (code_spec _ _).mono ?_
    rw [H.out]
    rintro e w1 ⟨rfl, rfl⟩
    go_wp2
    go_ret
    exact ⟨rfl, rfl⟩
  | false =>
    have H := Lib.hid (codeE_no hw)
    clear hw
    go_enter Tryz.func41, Tryz.ntmps41
    go_wp2_with fail
    go_at_call 84
    refine (code_spec _ _).mono ?_
    rw [H.out]
    rintro e w1 ⟨rfl, rfl⟩
    go_wp2
    go_ret
    exact ⟨rfl, rfl⟩
set_option maxHeartbeats 1000000 in
theorem inside_spec (A : Option Addr) (n c : Nat) (a m : Int) (w : World) (hn : n ≤ 9223372036854775807) : Calls Tryz.prog 35 #[.slice A n c, .int .i64 a, .int .i64 m] w fun e w' => e = .returned (.bool (inB n a m)) ∧ w = w' := by
  by_cases h1 : 0 ≤ a
  · by_cases h2 : 0 ≤ m
    · by_cases h3 : a ≤ n
      · have ha : (0 : Int) ≤ (n : Int) - a := by omega
        by_cases h4 : m ≤ (n : Int) - a
        · have H := Lib.hid (show inB n a m = true from inB_iff.2 ⟨h1, h2, by omega⟩)
          go_enter Tryz.func35, Tryz.ntmps35
          go_wp2
          go_ret
          exact ⟨ret_bool H.out.symm, rfl⟩
        · have H := Lib.hid (show inB n a m = false from decide_eq_false (fun h => h4 (by omega)))
          have hd : decide (m ≤ (n : Int) - a) = false := decide_eq_false h4
          go_enter Tryz.func35, Tryz.ntmps35
          go_wp2
          go_ret
          exact ⟨ret_bool H.out.symm, rfl⟩
      · have H := Lib.hid (show inB n a m = false from decide_eq_false (fun h => h3 (by omega)))
        have hd : decide (a ≤ (n : Int)) = false := decide_eq_false h3
        go_enter Tryz.func35, Tryz.ntmps35
        go_wp2
        go_ret
        exact ⟨ret_bool H.out.symm, rfl⟩
    · have H := Lib.hid (show inB n a m = false from decide_eq_false (fun h => h2 (by omega)))
      have hd : decide (0 ≤ m) = false := decide_eq_false h2
      go_enter Tryz.func35, Tryz.ntmps35
      go_wp2
      go_ret
      exact ⟨ret_bool H.out.symm, rfl⟩
  · have H := Lib.hid (show inB n a m = false from decide_eq_false (fun h => h1 (by omega)))
    have hd : decide (0 ≤ a) = false := decide_eq_false h1
    go_enter Tryz.func35, Tryz.ntmps35
    go_wp2
    go_ret
    exact ⟨ret_bool H.out.symm, rfl⟩
theorem cell0 {w : World} {g : Nat} {t : TypeId} {p q t' v : Value} (h : Blk w g t #[p, q, t', v]) : w.cell? ⟨g, 0, none⟩ = some p := h.cell 0
theorem cell1 {w : World} {g : Nat} {t : TypeId} {p q t' v : Value} (h : Blk w g t #[p, q, t', v]) : w.cell? ⟨g, 1, none⟩ = some q := h.cell 1
theorem cell2 {w : World} {g : Nat} {t : TypeId} {p q t' v : Value} (h : Blk w g t #[p, q, t', v]) : w.cell? ⟨g, 2, none⟩ = some t' := h.cell 2
theorem cell3 {w : World} {g : Nat} {t : TypeId} {p q t' v : Value} (h : Blk w g t #[p, q, t', v]) : w.cell? ⟨g, 3, none⟩ = some v := h.cell 3
end Go.Proofs.YtfoifdoaleaekaaGreat

namespace Go.Proofs.YtfoifdoaleaekaaGreat
open Go.RowKit Go.Acc
def kCells : Array Value := (tKinds.map fun k => Value.int .i64 k).toArray
def kZero : Array Value := Array.replicate 37 (Value.int .i64 0)
theorem kinfo : (Tryz.prog.info? 83).map (fun i => (i.zero, i.size)) = some (some (Value.agg kZero), 37) := by kernel_rfl
set_option maxRecDepth 100000 in
set_option maxHeartbeats 1000000 in
theorem kinds_spec (w : World) : Calls Tryz.prog 46 #[] w fun e w' => e = .returned (.agg kCells) ∧ Below w.heap.size w w' := by
  have hz := (zero_of_info kinfo).1
  have hsz : kZero.size = 37 := rfl
  go_enter Tryz.func46, Tryz.ntmps46
  go_wp2
  refine upon_skip_of (w' := w.alloc (.cells kCells 83)) ?_ ?_
  · refine Eq.trans ?_ (run_storeCells_new (P := Tryz.prog) w 83 kZero kCells (by kernel_rfl) (by kernel_rfl) (by kernel_rfl))
    kernel_rfl
  · have hld := run_loadVar_new (P := Tryz.prog) w 83 kCells 37 3 Tryz.underlying83 (by kernel_rfl)
    clear hz hsz
    go_wp2
    refine bodyPost_ret (v := .agg kCells) ?_ rfl ⟨rfl, (Below.refl _ _).alloc (Nat.le_refl _) _⟩
    refine results_cell_row (fn := Tryz.f46) rfl _ _ w.heap.size 83 kCells (0, 0) _ ?_ (heap_alloc_last w _) Tryz.underlying83 rfl (by kernel_rfl)
    rfl
theorem kindex {t : Int} (ht : isT t = true) : ∀ w, (Instr.index 83 (.agg kCells) (.int .i64 t)).run Tryz.prog w = .ok (.int .i64 (kindT t)) w := by
  have h := isT_iff.1 ht
  have h : t = 0 ∨ t = 1 ∨ t = 2 ∨ t = 3 ∨ t = 4 ∨ t = 5 ∨ t = 6 ∨ t = 7 ∨ t = 8 ∨ t = 9 ∨ t = 10 ∨ t = 11 ∨ t = 12 ∨ t = 13 ∨ t = 14 ∨ t = 15 ∨ t = 16 ∨ t = 17 ∨ t = 18 ∨ t = 19 ∨ t = 20 ∨ t = 21 ∨ t = 22 ∨ t = 23 ∨ t = 24 ∨ t = 25 ∨ t = 26 ∨ t = 27 ∨ t = 28 ∨ t = 29 ∨ t = 30 ∨ t = 31 ∨ t = 32 ∨ t = 33 ∨ t = 34 ∨ t = 35 ∨ t = 36 := by omega
  rcases h with rfl | rfl | rfl | rfl | rfl | rfl | rfl | rfl | rfl | rfl | rfl | rfl | rfl | rfl | rfl | rfl | rfl | rfl | rfl | rfl | rfl | rfl | rfl | rfl | rfl | rfl | rfl | rfl | rfl | rfl | rfl | rfl | rfl | rfl | rfl | rfl | rfl
  all_goals
    intro w
    kernel_rfl
set_option maxHeartbeats 1000000 in
theorem kind_spec (p q t v : Int) (w : World) : Calls Tryz.prog 15 #[.agg #[.int .i64 p, .int .i64 q, .int .i64 t, .int .i64 v]] w fun e w' => e = .returned (.int .i64 (kindT t)) ∧ Below w.heap.size w w' := by
  have HK := Lib.hid (Blk.new w 36 #[.int .i64 p, .int .i64 q, .int .i64 t, .int .i64 v])
  cases hl : legalT t with
  | false =>
    have HL := Lib.hid hl
    rw [legal_kind hl]
    clear hl
    go_enter Tryz.func15, Tryz.ntmps15
    go_wp2_with fail
    go_at_call 44
    refine (legal_spec t _).mono ?_
    rw [HL.out]
    rintro e w1 ⟨rfl, hb⟩
    have HB := Lib.hid (pure_trans ((Below.refl w.heap.size w).alloc (Nat.le_refl _) _) hb)
    clear hb
    go_wp2
    go_ret
    exact ⟨rfl, HB.out⟩
  | true =>
    have HL := Lib.hid hl
    have hb := isT_iff.1 (legal_isT hl)
    have hb0 := hb.1
    have hb1 := hb.2
    have hidx := kindex (legal_isT hl)
    clear hl hb
    go_enter Tryz.func15, Tryz.ntmps15
    go_wp2_with fail
    go_at_call 44
    refine (legal_spec t _).mono ?_
    rw [HL.out]
    rintro e w1 ⟨rfl, hb⟩
    have HB := Lib.hid (pure_trans ((Below.refl w.heap.size w).alloc (Nat.le_refl _) _) hb)
    have c2 := cell2 (HK.out.pure hb)
    have hsz := HB.out.size
    clear hb
    go_wp2_with fail
    go_region_held3 (fun w' => w'.cell? ⟨w.heap.size, 2, none⟩ = some (.int .i64 t)) (first | assumption | exact cell_pure HB5.out c2)
      (first | (go_at_call 46; refine (kinds_spec _).mono ?_; rintro e w5 ⟨rfl, hb5⟩; have HB5 := Lib.hid hb5; clear hb5))
    go_wp2
    go_ret
    exact ⟨rfl, pure_trans HB.out.drew HB5.out⟩

set_option maxHeartbeats 1000000 in
theorem may1_spec (b : Nat) (p q t v : Int) (w : World) (hK : Blk w b 36 #[.int .i64 p, .int .i64 q, .int .i64 t, .int .i64 v]) : Calls Tryz.prog 43 #[.pointer (some ⟨b, 0, none⟩)] w fun e w' => e = .returned (.bool (formed q t v)) ∧ Below w.heap.size w w' := by
  have c2 := cell2 hK
  have HK := Lib.hid hK
  clear hK
  cases hl : legalT t with
  | false =>
    have HL := Lib.hid hl
    have HF := Lib.hid (show formed q t v = false by unfold formed; rw [hl]; rfl)
    rw [HF.out]
    clear hl
    go_enter Tryz.func43, Tryz.ntmps43
    go_wp2_with fail
    go_at_call 44
    refine (legal_spec t _).mono ?_
    rw [HL.out]
    rintro e w1 ⟨rfl, hb⟩
    have HB := Lib.hid hb
    clear hb
    go_wp2
    go_ret
    exact ⟨rfl, HB.out⟩
  | true =>
    have HL := Lib.hid hl
    have HF := Lib.hid (show formed q t v = (isW q && isW v) by unfold formed; rw [hl]; rfl)
    rw [HF.out]
    clear hl
    go_enter Tryz.func43, Tryz.ntmps43
    go_wp2_with fail
    go_at_call 44
    refine (legal_spec t _).mono ?_
    rw [HL.out]
    rintro e w1 ⟨rfl, hb⟩
    have HB := Lib.hid hb
    have c1 := cell1 (HK.out.pure hb)
    have c3 := cell3 (HK.out.pure hb)
    clear hb
    go_wp2_with fail
    go_at_call 41
    refine (iswidth_spec q _).mono ?_
    rintro e w1 ⟨rfl, rfl⟩
    cases hq : isW q with
    | false =>
      have HQ := Lib.hid hq
      clear hq
      go_wp2
      go_ret
      exact ⟨ret_bool (by rw [HQ.out]; rfl), HB.out⟩
    | true =>
      have HQ := Lib.hid hq
      clear hq
      go_wp2_with fail
      go_at_call 41
      refine (iswidth_spec v _).mono ?_
      rintro e w1 ⟨rfl, rfl⟩
      go_wp2
      go_ret
      exact ⟨ret_bool (by rw [HQ.out]; rfl), HB.out⟩
set_option maxHeartbeats 1000000 in
theorem may2_spec (a b : Nat) (A : Option Addr) (n c : Nat) (p q t v : Int) (w : World) (hn : n ≤ 9223372036854775807) (hA : Blk w a 29 #[.slice A n c]) (hK : Blk w b 36 #[.int .i64 p, .int .i64 q, .int .i64 t, .int .i64 v]) :
    Calls Tryz.prog 45 #[.pointer (some ⟨a, 0, none⟩), .pointer (some ⟨b, 0, none⟩)] w fun e w' => e = .returned (.bool (inB n p q)) ∧ w = w' := by
  have c0 := cell0 hK
  have c1 := cell1 hK
  have a0 : w.cell? ⟨a, 0, none⟩ = some (.slice A n c) := hA.cell 0
  clear hK hA
  go_enter Tryz.func45, Tryz.ntmps45
  go_wp2_with fail
  go_at_call 35
  refine (inside_spec A n c p q _ hn).mono ?_
  rintro e w1 ⟨rfl, rfl⟩
  go_wp2
  go_ret
  exact ⟨rfl, rfl⟩
set_option maxHeartbeats 1000000 in
theorem may_spec (A : Option Addr) (n c : Nat) (p q t v : Int) (w : World) (hn : n ≤ 9223372036854775807) : Calls Tryz.prog 14 #[.slice A n c, .agg #[.int .i64 p, .int .i64 q, .int .i64 t, .int .i64 v]] w fun e w' => e = .returned (.int .i64 (mayE n p q t v)) ∧ Below w.heap.size w w' := by
  have HA := Lib.hid ((Blk.new w 29 #[.slice A n c]).alloc (.cells #[.int .i64 p, .int .i64 q, .int .i64 t, .int .i64 v] 36))
  have HK := Lib.hid (Blk.new_ (w := w.alloc (.cells #[.slice A n c] 29)) (g := w.heap.size + 1) (by simp) 36 #[.int .i64 p, .int .i64 q, .int .i64 t, .int .i64 v])
  have HF1 := Tryz.call43
  have HF2 := Tryz.call45
  go_enter Tryz.func14, Tryz.ntmps14
  go_wp2
  refine wp_loop_rounds 3 ?_
  rw [rounds_succ]
  go_wp2_with fail
  refine (may1_spec (w.heap.size + 1) p q t v _ ((HK.out.alloc _).alloc _)).mono ?_
  rintro e w1 ⟨rfl, hb⟩
  have HL := Lib.hid ((Blk.new_ (w := ((w.alloc (.cells #[.slice A n c] 29)).alloc (.cells #[.int .i64 p, .int .i64 q, .int .i64 t, .int .i64 v] 36))) (g := w.heap.size + 1 + 1) (by simp) _ _).alloc _ |>.pure hb)
  have HX := Lib.hid ((Blk.new_ (g := w.heap.size + 1 + 1 + 1) (by simp) _ _).pure hb)
  have HA := Lib.hid (((HA.out.alloc _).alloc _).pure hb)
  have HK := Lib.hid (((HK.out.alloc _).alloc _).pure hb)
  have HB := Lib.hid (((((Below.refl w.heap.size w).alloc (Nat.le_refl _) _).alloc (by simp) _).alloc (by simp; omega) _).alloc (by simp; omega) _ |>.trans (hb.mono (by simp; omega)))
  have hs : w.heap.size + 1 + 1 + 1 < w1.heap.size := by have := HX.out.lt; omega
  clear hb
  cases hf : formed q t v with
  | false =>
    have HE := Lib.hid (show mayE n p q t v = 2 by unfold mayE; rw [hf]; rfl)
    have x1 := (HX.out.cell 1).trans (show _ = some (Value.int .i64 2) from rfl)
    clear hf HF1 HF2
    go_wp2
    go_ret
    exact ⟨ret_int HE.out.symm, HB.out⟩
  | true =>
    have HE := Lib.hid (show mayE n p q t v = if inB n p q = true then 0 else 6 by unfold mayE; rw [hf]; rfl)
    have l2 := HL.out.cell 2
    have l3 := HL.out.cell 3
    simp only [List.getElem?_toArray, List.getElem?_cons_succ, List.getElem?_cons_zero] at l2 l3
    clear hf
    go_wp2
    rw [rounds_succ]
    go_wp2_with fail
    refine (may2_spec w.heap.size (w.heap.size + 1) A n c p q t v _ hn (HA.out.alloc _) (HK.out.alloc _)).mono ?_
    rintro e w2 ⟨rfl, rfl⟩
    clear l2 l3
    cases hi : inB n p q with
    | true =>
      have HI := Lib.hid hi
      clear hi
      go_wp2
      rw [rounds_succ]
      go_wp2
      go_ret
      exact ⟨ret_int (by rw [HE.out, HI.out]; rfl), HB.out.alloc (by omega) _⟩
    | false =>
      have HI := Lib.hid hi
      clear hi
      go_wp2
      go_ret
      exact ⟨ret_int (by rw [HE.out, HI.out]; rfl), HB.out.alloc (by omega) _⟩
end Go.Proofs.YtfoifdoaleaekaaGreat
