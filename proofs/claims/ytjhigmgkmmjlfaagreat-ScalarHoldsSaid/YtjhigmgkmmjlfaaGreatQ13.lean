/-
  Package fit: whether a value fits, One.
  Package ref and its reference: Inside, isWidth, Same.
  Package ref and its reference: Kind, May.
  Package ref and its reference: Target.
-/
import Derived.Test.YtjhigmgkmmjlfaaGreatQ11
import Derived.Test.YtjhigmgkmmjlfaaGreatQ12
import Derived.Laws.EntriesVeiled
namespace Go.Proofs.YtjhigmgkmmjlfaaGreat
open Go.RowKit Go.Acc
theorem up_tdiv (a y : Nat) (hy : 0 < y) : ((a : Int) + y - 1).tdiv y * y = (upN a y : Nat) := by
  unfold upN
  rw [show (a : Int) + y - 1 = ((a + y - 1 : Nat) : Int) by omega, Int.tdiv_eq_ediv_of_nonneg (by omega), ← Int.natCast_ediv, ← Int.natCast_mul]
theorem up_bd (a y : Nat) (hy : 0 < y) : a ≤ upN a y ∧ upN a y ≤ a + y := by
  have h := Nat.div_add_mod (a + y - 1) y
  have h2 := Nat.mod_lt (a + y - 1) hy
  unfold upN
  rw [Nat.mul_comm] at h
  constructor <;> omega
set_option maxHeartbeats 1000000 in
theorem ffits_is (v : Bv) (a i y : Nat) (r : Bool) (w : World) (hy : isW (y : Int) = true) (ha : a ≤ 1048576) (hi : i ≤ 1048576) (hr : fitsV v a i y = r) :
    Calls Tryz.prog 216 #[.agg #[.int .i64 (v.t : Int), .int .i64 (v.w : Int), .int .u64 (v.n : Int)], .int .i64 (a : Int), .int .i64 (i : Int), .int .i64 (y : Int)] w fun e w' => e = .returned (.bool r) ∧ Below w.heap.size w w' := by
  have hB := (Below.refl w.heap.size w).alloc (Nat.le_refl _) (.cells #[.int .i64 (v.t : Int), .int .i64 (v.w : Int), .int .u64 (v.n : Int)] 204)
  have HB := Lib.hid hB
  have hy8 : 1 ≤ y ∧ y ≤ 8 := by have := w_cases hy; omega
  clear hB hy
  have hX := Blk.new w 204 #[.int .i64 (v.t : Int), .int .i64 (v.w : Int), .int .u64 (v.n : Int)]
  cases hin : inl v.t with
  | true =>
    have HI := Lib.hid (show inlineT (v.t : Int) = true from hin)
    have HR := Lib.hid (show decide (v.w ≤ y) = r by rw [← hr]; unfold fitsV; rw [if_pos hin])
    clear hr hin
    have HX := Lib.hid hX
    clear hX
    go_enter Tryz.func216, Tryz.ntmps216
    go_wp2_with fail
    go_at_call 19
    refine (inline_spec (v.t : Int) _).mono ?_
    rw [HI.out]
    rintro e w' ⟨rfl, hb⟩
    have HK := Lib.hid (HX.out.pure hb)
    have x1 : w'.cell? ⟨w.heap.size, 1, none⟩ = some (.int .i64 (v.w : Int)) := HK.out.cell 1
    have HB2 := Lib.hid (pure_below HB.out hb)
    clear hb
    go_wp2_with fail
    go_ret
    exact ⟨ret_bool HR.out, HB2.out⟩
  | false =>
    have HI := Lib.hid (show inlineT (v.t : Int) = false from hin)
    have hne : ¬ inl v.t = true := by rw [hin]; decide
    have hr' : decide (v.n ≤ a ∧ bWidth (upN a y + i * y - v.n) ≤ y) = r := by rw [← hr]; unfold fitsV; rw [if_neg hne]
    have HX := Lib.hid hX
    clear hr hin hne hX
    by_cases hna : v.n ≤ a
    · obtain ⟨hu1, hu2⟩ := up_bd a y (by omega)
      have hiy : i * y ≤ 1048576 * 8 := Nat.mul_le_mul hi hy8.2
      obtain ⟨u, hu⟩ : ∃ u, upN a y = u := ⟨_, rfl⟩
      obtain ⟨q, hq⟩ : ∃ q : Nat, i * y = q := ⟨_, rfl⟩
      have ht := up_tdiv a y (by omega)
      rw [hu] at ht hu1 hu2 hr'
      rw [hq] at hiy hr'
      obtain ⟨d, hd⟩ : ∃ d, u + q - v.n = d := ⟨_, rfl⟩
      rw [hd] at hr'
      obtain ⟨p, hp⟩ : ∃ p : Nat, ((a : Int) + y - 1).tdiv y = p := ⟨(a + y - 1) / y, by rw [show (a : Int) + y - 1 = ((a + y - 1 : Nat) : Int) by omega, Int.tdiv_eq_ediv_of_nonneg (by omega)]; rfl⟩
      rw [hp] at ht
      have hp9 : p ≤ u := by
        have : (p : Int) * y = ((p * y : Nat) : Int) := by simp
        rw [this] at ht
        have h3 : p * y = u := by exact_mod_cast ht
        have : p * 1 ≤ p * y := Nat.mul_le_mul_left p (by omega)
        omega
      have HR := Lib.hid (show decide (bWidth d ≤ y) = r by rw [← hr']; exact decide_eq_decide.2 ⟨fun h => ⟨hna, h⟩, fun h => h.2⟩)
      have e1 : IntKind.i64.wrap ((a : Int) + y) = (a : Int) + y := IntWalk.i64_in _ (by omega)
      have e2 : IntKind.i64.wrap ((a : Int) + y - 1) = (a : Int) + y - 1 := IntWalk.i64_in _ (by omega)
      have e3 : IntKind.i64.wrap (p : Int) = p := IntWalk.i64_in _ (by omega)
      have hiq : (i : Int) * (y : Int) = (q : Int) := by rw [← hq]; simp
      have e4 : IntKind.i64.wrap (u : Int) = u := IntWalk.i64_in _ (by omega)
      have e5 : IntKind.i64.wrap (q : Int) = q := IntWalk.i64_in _ (by omega)
      have e6 : IntKind.i64.wrap ((u : Int) + q) = (u : Int) + q := IntWalk.i64_in _ (by omega)
      have e7 : IntKind.u64.wrap ((u : Int) + q) = (u : Int) + q := u64_in _ (by omega)
      have e8 : (u : Int) + q - v.n = d := by omega
      have e9 : IntKind.u64.wrap (d : Int) = d := u64_in _ (by omega)
      have e10 : IntKind.u64.wrap (a : Int) = a := u64_in _ (by omega)
      have hyn : ¬ y = 0 := by omega
      have HWD := Lib.hid (show wdU d = (bWidth d : Nat) from wdU_b d)
      have hd64 : d < 18446744073709551616 := by omega
      obtain ⟨bd, hbd⟩ : ∃ x, bWidth d = x := ⟨_, rfl⟩
      rw [hbd] at HR HWD
      have hgt : decide ((a : Int) < (v.n : Int)) = false := decide_eq_false (by omega)
      have hgt' : decide (a < v.n) = false := decide_eq_false (by omega)
      have HH := Lib.hid (And.intro hd64 hbd)
      clear hr' hu hq hd hd64 hbd hna hp9 hu1 hu2 hiy
      go_enter Tryz.func216, Tryz.ntmps216
      go_wp2_with fail
      go_at_call 19
      refine (inline_spec (v.t : Int) _).mono ?_
      rw [HI.out]
      rintro e w' ⟨rfl, hb⟩
      have HK := Lib.hid (HX.out.pure hb)
      have x2 : w'.cell? ⟨w.heap.size, 2, none⟩ = some (.int .u64 (v.n : Int)) := HK.out.cell 2
      have HB2 := Lib.hid (pure_below HB.out hb)
      clear hb
      go_wp2_with fail
      go_at_call 237
      refine (wof_is d bd _ HH.out.1 HWD.out).mono ?_
      rintro e w1 ⟨rfl, rfl⟩
      clear ht hp e1 e2 e3 hiq e4 e5 e6 e7 e8 e9 e10 hyn hgt hgt' x2
      go_wp2_with fail
      go_ret
      exact ⟨ret_bool HR.out, HB2.out⟩
    · have HR := Lib.hid (show false = r by rw [← hr', decide_eq_false]; exact fun h => hna h.1)
      have hgt : decide (a < v.n) = true := decide_eq_true (by omega)
      have e10 : IntKind.u64.wrap (a : Int) = a := u64_in _ (by omega)
      clear hr' hna
      go_enter Tryz.func216, Tryz.ntmps216
      go_wp2_with fail
      go_at_call 19
      refine (inline_spec (v.t : Int) _).mono ?_
      rw [HI.out]
      rintro e w' ⟨rfl, hb⟩
      have HK := Lib.hid (HX.out.pure hb)
      have x2 : w'.cell? ⟨w.heap.size, 2, none⟩ = some (.int .u64 (v.n : Int)) := HK.out.cell 2
      have HB2 := Lib.hid (pure_below HB.out hb)
      clear hb
      go_wp2_with fail
      go_ret
      exact ⟨ret_bool HR.out, HB2.out⟩
theorem pow4_is (y : Fin 4) : isW ((2 ^ y.val : Nat) : Int) = true := by
  have h : ∀ y : Fin 4, isW ((2 ^ y.val : Nat) : Int) = true := by decide
  exact h y
set_option maxHeartbeats 1000000 in
theorem one1_spec (v : Bv) (a i y bv ba bi : Nat) (w : World) (hv : Blk w bv 204 #[.int .i64 (v.t : Int), .int .i64 (v.w : Int), .int .u64 (v.n : Int)]) (ha : Blk w ba 3 #[.int .i64 (a : Int)]) (hi : Blk w bi 3 #[.int .i64 (i : Int)])
    (hy : isW (y : Int) = true) (ha2 : a ≤ 1048576) (hi2 : i ≤ 1048576) :
    Calls Tryz.prog 215 #[.int .i64 (y : Int), .pointer (some ⟨bv, 0, none⟩), .pointer (some ⟨ba, 0, none⟩), .pointer (some ⟨bi, 0, none⟩)] w fun e w' => e = .returned (.bool (fitsV v a i y)) ∧ Below w.heap.size w w' := by
  obtain ⟨r, hr⟩ : ∃ r, fitsV v a i y = r := ⟨_, rfl⟩
  rw [hr]
  have HF := Lib.hid (ffits_is v a i y r w hy ha2 hi2 hr)
  have v0 : w.cell? ⟨bv, 0, none⟩ = some (.int .i64 (v.t : Int)) := hv.cell 0
  have v1 : w.cell? ⟨bv, 1, none⟩ = some (.int .i64 (v.w : Int)) := hv.cell 1
  have v2 : w.cell? ⟨bv, 2, none⟩ = some (.int .u64 (v.n : Int)) := hv.cell 2
  have a0 : w.cell? ⟨ba, 0, none⟩ = some (.int .i64 (a : Int)) := ha.cell 0
  have i0 : w.cell? ⟨bi, 0, none⟩ = some (.int .i64 (i : Int)) := hi.cell 0
  clear hv ha hi hy ha2 hi2 hr
  go_enter Tryz.func215, Tryz.ntmps215
  go_wp2_with fail
  go_at_call 216
  refine HF.out.mono ?_
  rintro e w' ⟨rfl, hb⟩
  have HB := Lib.hid hb
  clear hb v0 v1 v2 a0 i0
  go_wp2_with fail
  go_ret
  exact ⟨rfl, HB.out⟩
set_option maxHeartbeats 1000000 in
theorem one_spec (v : Bv) (a i : Nat) (w : World) (ha2 : a ≤ 1048576) (hi2 : i ≤ 1048576) :
    Calls Tryz.prog 149 #[.agg #[.int .i64 (v.t : Int), .int .i64 (v.w : Int), .int .u64 (v.n : Int)], .int .i64 (a : Int), .int .i64 (i : Int)] w fun e w' => e = .returned (.int .i64 (leastW (fitsV v a i) : Nat)) ∧ Below w.heap.size w w' := by
  have HB := Lib.hid (show Below w.heap.size w (((w.alloc (.cells #[.int .i64 (v.t : Int), .int .i64 (v.w : Int), .int .u64 (v.n : Int)] 204)).alloc (.cells #[.int .i64 (a : Int)] 3)).alloc (.cells #[.int .i64 (i : Int)] 3)) from (((Below.refl _ _).alloc (Nat.le_refl _) _).alloc (by simp) _).alloc (by simp; omega) _)
  have HX := Lib.hid (((Blk.new w 204 #[.int .i64 (v.t : Int), .int .i64 (v.w : Int), .int .u64 (v.n : Int)]).alloc (.cells #[.int .i64 (a : Int)] 3)).alloc (.cells #[.int .i64 (i : Int)] 3))
  have HY := Lib.hid ((blk_new2 w (.cells #[.int .i64 (v.t : Int), .int .i64 (v.w : Int), .int .u64 (v.n : Int)] 204) 3 #[.int .i64 (a : Int)]).alloc (.cells #[.int .i64 (i : Int)] 3))
  have HZ := Lib.hid (blk_new2 (w.alloc (.cells #[.int .i64 (v.t : Int), .int .i64 (v.w : Int), .int .u64 (v.n : Int)] 204)) (.cells #[.int .i64 (a : Int)] 3) 3 #[.int .i64 (i : Int)])
  have e : (w.alloc (.cells #[.int .i64 (v.t : Int), .int .i64 (v.w : Int), .int .u64 (v.n : Int)] 204)).heap.size + 1 = w.heap.size + 1 + 1 := by simp
  rw [e] at HZ
  obtain ⟨r, hr⟩ : ∃ r, leastW (fitsV v a i) = r := ⟨_, rfl⟩
  have HRR := Lib.hid hr
  rw [hr]
  have HA := Lib.hid (And.intro ha2 hi2)
  clear e hr
  go_enter Tryz.func149, Tryz.ntmps149
  go_wp2_with fail
  go_at_call 213
  refine (fwithin_spec a _ (by omega)).mono ?_
  rintro e w' ⟨rfl, rfl⟩
  go_wp2_with fail
  go_at_call 213
  refine (fwithin_spec i _ (by omega)).mono ?_
  rintro e w' ⟨rfl, rfl⟩
  go_wp2_with fail
  go_at_call 214
  generalize (((w.alloc (.cells #[.int .i64 (v.t : Int), .int .i64 (v.w : Int), .int .u64 (v.n : Int)] 204)).alloc (.cells #[.int .i64 (a : Int)] 3)).alloc (.cells #[.int .i64 (i : Int)] 3)) = w1 at HB HX HY HZ ⊢
  generalize w.heap.size + 1 + 1 = bi at HZ ⊢
  generalize w.heap.size + 1 = ba at HY ⊢
  have HF := fun (y : Fin 4) (W : World) (hW : Below w1.heap.size w1 W) => one1_spec v a i (2 ^ y.val) w.heap.size ba bi W (HX.out.pure hW) (HY.out.pure hW) (HZ.out.pure hW) (pow4_is y) HA.out.1 HA.out.2
  refine (least_spec 215 #[.pointer (some ⟨w.heap.size, 0, none⟩), .pointer (some ⟨ba, 0, none⟩), .pointer (some ⟨bi, 0, none⟩)] (fitsV v a i) w1 Tryz.call215 HF).mono ?_
  rw [HRR.out]
  rintro e w' ⟨rfl, hb⟩
  have HB2 := Lib.hid (pure_below HB.out hb)
  clear hb
  go_wp2_with fail
  go_ret
  exact ⟨rfl, HB2.out⟩
end Go.Proofs.YtjhigmgkmmjlfaaGreat

namespace Go.Proofs.YtjhigmgkmmjlfaaGreat
open Go.RowKit Go.Acc
def codeE (x : Int) : Int := if isW x = true then 0 else 2
def codeW (x : Int) : Int := if x = 2 then 1 else if x = 4 then 2 else if x = 8 then 3 else 0
set_option maxHeartbeats 1000000 in
theorem code_spec (x : Int) (w : World) : Calls Tryz.prog 103 #[.int .i64 x] w fun e w' => e = .returned (.tuple #[.int .i64 (codeW x), .int .i64 (codeE x)]) ∧ w = w' := by
  cases hw : isW x with
  | true =>
    have hx := isW_iff.1 hw
    clear hw
    rcases hx with rfl | rfl | rfl | rfl
    all_goals
      go_enter Tryz.func103, Tryz.ntmps103
      go_wp2
      refine wp_loop_rounds 5 ?_
      repeat (rw [rounds_succ]; go_wp2)
      go_ret2
      exact ⟨rfl, rfl⟩
  | false =>
    have hx := isW_no.1 hw
    have H1 := Lib.hid (show codeW x = 0 by unfold codeW; rw [if_neg hx.2.1, if_neg hx.2.2.1, if_neg hx.2.2.2])
    have H2 := Lib.hid (show codeE x = 2 by unfold codeE; rw [hw]; rfl)
    rw [H1.out, H2.out]
    have e1 : (x == 1) = false := beq_eq_false_iff_ne.mpr hx.1
    have e2 : (x == 2) = false := beq_eq_false_iff_ne.mpr hx.2.1
    have e4 : (x == 4) = false := beq_eq_false_iff_ne.mpr hx.2.2.1
    have e8 : (x == 8) = false := beq_eq_false_iff_ne.mpr hx.2.2.2
    clear hx hw
    go_enter Tryz.func103, Tryz.ntmps103
    go_wp2
    refine wp_loop_rounds 5 ?_
    repeat (rw [rounds_succ]; go_wp2)
    go_ret2
    exact ⟨rfl, rfl⟩
theorem codeE_no {x : Int} (h : isW x = false) : codeE x = 2 := by unfold codeE; rw [h]; rfl
theorem codeE_yes {x : Int} (h : isW x = true) : codeE x = 0 := by unfold codeE; rw [h]; rfl
set_option maxHeartbeats 400000 in
theorem iswidth_spec (x : Int) (w : World) : Calls Tryz.prog 56 #[.int .i64 x] w fun e w' => e = .returned (.bool (isW x)) ∧ w = w' := by
  cases hw : isW x with
  | true =>
    have H := Lib.hid (codeE_yes hw)
    clear hw
    go_enter Tryz.func56, Tryz.ntmps56
    go_wp2_with fail
    go_at_call 103
    refine (code_spec _ _).mono ?_
    rw [H.out]
    rintro e w1 ⟨rfl, rfl⟩
    go_wp2
    go_ret
    exact ⟨rfl, rfl⟩
  | false =>
    have H := Lib.hid (codeE_no hw)
    clear hw
    go_enter Tryz.func56, Tryz.ntmps56
    go_wp2_with fail
    go_at_call 103
    refine (code_spec _ _).mono ?_
    rw [H.out]
    rintro e w1 ⟨rfl, rfl⟩
    go_wp2
    go_ret
    exact ⟨rfl, rfl⟩
set_option maxHeartbeats 1000000 in
theorem inside_spec (A : Option Addr) (n c : Nat) (a m : Int) (w : World) (hn : n ≤ 9223372036854775807) : Calls Tryz.prog 50 #[.slice A n c, .int .i64 a, .int .i64 m] w fun e w' => e = .returned (.bool (inB n a m)) ∧ w = w' := by
  by_cases h1 : 0 ≤ a
  · by_cases h2 : 0 ≤ m
    · by_cases h3 : a ≤ n
      · have ha : (0 : Int) ≤ (n : Int) - a := by omega
        by_cases h4 : m ≤ (n : Int) - a
        · have H := Lib.hid (show inB n a m = true from inB_iff.2 ⟨h1, h2, by omega⟩)
          go_enter Tryz.func50, Tryz.ntmps50
          go_wp2
          go_ret
          exact ⟨ret_bool H.out.symm, rfl⟩
        · have H := Lib.hid (show inB n a m = false from decide_eq_false (fun h => h4 (by omega)))
          have hd : decide (m ≤ (n : Int) - a) = false := decide_eq_false h4
          go_enter Tryz.func50, Tryz.ntmps50
          go_wp2
          go_ret
          exact ⟨ret_bool H.out.symm, rfl⟩
      · have H := Lib.hid (show inB n a m = false from decide_eq_false (fun h => h3 (by omega)))
        have hd : decide (a ≤ (n : Int)) = false := decide_eq_false h3
        go_enter Tryz.func50, Tryz.ntmps50
        go_wp2
        go_ret
        exact ⟨ret_bool H.out.symm, rfl⟩
    · have H := Lib.hid (show inB n a m = false from decide_eq_false (fun h => h2 (by omega)))
      have hd : decide (0 ≤ m) = false := decide_eq_false h2
      go_enter Tryz.func50, Tryz.ntmps50
      go_wp2
      go_ret
      exact ⟨ret_bool H.out.symm, rfl⟩
  · have H := Lib.hid (show inB n a m = false from decide_eq_false (fun h => h1 (by omega)))
    have hd : decide (0 ≤ a) = false := decide_eq_false h1
    go_enter Tryz.func50, Tryz.ntmps50
    go_wp2
    go_ret
    exact ⟨ret_bool H.out.symm, rfl⟩
theorem cell0 {w : World} {g : Nat} {t : TypeId} {p q t' v : Value} (h : Blk w g t #[p, q, t', v]) : w.cell? ⟨g, 0, none⟩ = some p := h.cell 0
theorem cell1 {w : World} {g : Nat} {t : TypeId} {p q t' v : Value} (h : Blk w g t #[p, q, t', v]) : w.cell? ⟨g, 1, none⟩ = some q := h.cell 1
theorem cell2 {w : World} {g : Nat} {t : TypeId} {p q t' v : Value} (h : Blk w g t #[p, q, t', v]) : w.cell? ⟨g, 2, none⟩ = some t' := h.cell 2
theorem cell3 {w : World} {g : Nat} {t : TypeId} {p q t' v : Value} (h : Blk w g t #[p, q, t', v]) : w.cell? ⟨g, 3, none⟩ = some v := h.cell 3
end Go.Proofs.YtjhigmgkmmjlfaaGreat

namespace Go.Proofs.YtjhigmgkmmjlfaaGreat
open Go.RowKit Go.Acc
def kCells : Array Value := (tKinds.map fun k => Value.int .i64 k).toArray
def kZero : Array Value := Array.replicate 37 (Value.int .i64 0)
theorem kinfo : (Tryz.prog.info? 97).map (fun i => (i.zero, i.size)) = some (some (Value.agg kZero), 37) := by kernel_rfl
set_option maxRecDepth 100000 in
set_option maxHeartbeats 1000000 in
theorem kinds_spec (w : World) : Calls Tryz.prog 61 #[] w fun e w' => e = .returned (.agg kCells) ∧ Below w.heap.size w w' := by
  have hz := (zero_of_info kinfo).1
  have hsz : kZero.size = 37 := rfl
  go_enter Tryz.func61, Tryz.ntmps61
  go_wp2
  refine upon_skip_of (w' := w.alloc (.cells kCells 97)) ?_ ?_
  · refine Eq.trans ?_ (run_storeCells_new (P := Tryz.prog) w 97 kZero kCells (by kernel_rfl) (by kernel_rfl) (by kernel_rfl))
    kernel_rfl
  · have hld := run_loadVar_new (P := Tryz.prog) w 97 kCells 37 3 Tryz.underlying97 (by kernel_rfl)
    clear hz hsz
    go_wp2
    refine bodyPost_ret (v := .agg kCells) ?_ rfl ⟨rfl, (Below.refl _ _).alloc (Nat.le_refl _) _⟩
    refine results_cell_row (fn := Tryz.f61) rfl _ _ w.heap.size 97 kCells (0, 0) _ ?_ (heap_alloc_last w _) Tryz.underlying97 rfl (by kernel_rfl)
    rfl
theorem kindex {t : Int} (ht : isT t = true) : ∀ w, (Instr.index 97 (.agg kCells) (.int .i64 t)).run Tryz.prog w = .ok (.int .i64 (kindT t)) w := by
  have h := isT_iff.1 ht
  have h : t = 0 ∨ t = 1 ∨ t = 2 ∨ t = 3 ∨ t = 4 ∨ t = 5 ∨ t = 6 ∨ t = 7 ∨ t = 8 ∨ t = 9 ∨ t = 10 ∨ t = 11 ∨ t = 12 ∨ t = 13 ∨ t = 14 ∨ t = 15 ∨ t = 16 ∨ t = 17 ∨ t = 18 ∨ t = 19 ∨ t = 20 ∨ t = 21 ∨ t = 22 ∨ t = 23 ∨ t = 24 ∨ t = 25 ∨ t = 26 ∨ t = 27 ∨ t = 28 ∨ t = 29 ∨ t = 30 ∨ t = 31 ∨ t = 32 ∨ t = 33 ∨ t = 34 ∨ t = 35 ∨ t = 36 := by omega
  rcases h with rfl | rfl | rfl | rfl | rfl | rfl | rfl | rfl | rfl | rfl | rfl | rfl | rfl | rfl | rfl | rfl | rfl | rfl | rfl | rfl | rfl | rfl | rfl | rfl | rfl | rfl | rfl | rfl | rfl | rfl | rfl | rfl | rfl | rfl | rfl | rfl | rfl
  all_goals
    intro w
    kernel_rfl
set_option maxHeartbeats 1000000 in
theorem kind_spec (p q t v : Int) (w : World) : Calls Tryz.prog 17 #[.agg #[.int .i64 p, .int .i64 q, .int .i64 t, .int .i64 v]] w fun e w' => e = .returned (.int .i64 (kindT t)) ∧ Below w.heap.size w w' := by
  have HK := Lib.hid (Blk.new w 36 #[.int .i64 p, .int .i64 q, .int .i64 t, .int .i64 v])
  cases hl : legalT t with
  | false =>
    have HL := Lib.hid hl
    rw [legal_kind hl]
    clear hl
    go_enter Tryz.func17, Tryz.ntmps17
    go_wp2_with fail
    go_at_call 59
    refine (legal_spec t _).mono ?_
    rw [HL.out]
    rintro e w1 ⟨rfl, hb⟩
    have HB := Lib.hid (pure_trans ((Below.refl w.heap.size w).alloc (Nat.le_refl _) _) hb)
    clear hb
    go_wp2
    go_ret
    exact ⟨rfl, HB.out⟩
  | true =>
    have HL := Lib.hid hl
    have hb := isT_iff.1 (legal_isT hl)
    have hb0 := hb.1
    have hb1 := hb.2
    have hidx := kindex (legal_isT hl)
    clear hl hb
    go_enter Tryz.func17, Tryz.ntmps17
    go_wp2_with fail
    go_at_call 59
    refine (legal_spec t _).mono ?_
    rw [HL.out]
    rintro e w1 ⟨rfl, hb⟩
    have HB := Lib.hid (pure_trans ((Below.refl w.heap.size w).alloc (Nat.le_refl _) _) hb)
    have c2 := cell2 (HK.out.pure hb)
    have hsz := HB.out.size
    clear hb
    go_wp2_with fail
    go_region_held3 (fun w' => w'.cell? ⟨w.heap.size, 2, none⟩ = some (.int .i64 t)) (first | assumption | exact cell_pure HB5.out c2)
      (first | (go_at_call 61; refine (kinds_spec _).mono ?_; rintro e w5 ⟨rfl, hb5⟩; have HB5 := Lib.hid hb5; clear hb5))
    go_wp2
    go_ret
    exact ⟨rfl, pure_trans HB.out.drew HB5.out⟩

set_option maxHeartbeats 1000000 in
theorem may1_spec (b : Nat) (p q t v : Int) (w : World) (hK : Blk w b 36 #[.int .i64 p, .int .i64 q, .int .i64 t, .int .i64 v]) : Calls Tryz.prog 58 #[.pointer (some ⟨b, 0, none⟩)] w fun e w' => e = .returned (.bool (formed q t v)) ∧ Below w.heap.size w w' := by
  have c2 := cell2 hK
  have HK := Lib.hid hK
  clear hK
  cases hl : legalT t with
  | false =>
    have HL := Lib.hid hl
    have HF := Lib.hid (show formed q t v = false by unfold formed; rw [hl]; rfl)
    rw [HF.out]
    clear hl
    go_enter Tryz.func58, Tryz.ntmps58
    go_wp2_with fail
    go_at_call 59
    refine (legal_spec t _).mono ?_
    rw [HL.out]
    rintro e w1 ⟨rfl, hb⟩
    have HB := Lib.hid hb
    clear hb
    go_wp2
    go_ret
    exact ⟨rfl, HB.out⟩
  | true =>
    have HL := Lib.hid hl
    have HF := Lib.hid (show formed q t v = (isW q && isW v) by unfold formed; rw [hl]; rfl)
    rw [HF.out]
    clear hl
    go_enter Tryz.func58, Tryz.ntmps58
    go_wp2_with fail
    go_at_call 59
    refine (legal_spec t _).mono ?_
    rw [HL.out]
    rintro e w1 ⟨rfl, hb⟩
    have HB := Lib.hid hb
    have c1 := cell1 (HK.out.pure hb)
    have c3 := cell3 (HK.out.pure hb)
    clear hb
    go_wp2_with fail
    go_at_call 56
    refine (iswidth_spec q _).mono ?_
    rintro e w1 ⟨rfl, rfl⟩
    cases hq : isW q with
    | false =>
      have HQ := Lib.hid hq
      clear hq
      go_wp2
      go_ret
      exact ⟨ret_bool (by rw [HQ.out]; rfl), HB.out⟩
    | true =>
      have HQ := Lib.hid hq
      clear hq
      go_wp2_with fail
      go_at_call 56
      refine (iswidth_spec v _).mono ?_
      rintro e w1 ⟨rfl, rfl⟩
      go_wp2
      go_ret
      exact ⟨ret_bool (by rw [HQ.out]; rfl), HB.out⟩
set_option maxHeartbeats 1000000 in
theorem may2_spec (a b : Nat) (A : Option Addr) (n c : Nat) (p q t v : Int) (w : World) (hn : n ≤ 9223372036854775807) (hA : Blk w a 29 #[.slice A n c]) (hK : Blk w b 36 #[.int .i64 p, .int .i64 q, .int .i64 t, .int .i64 v]) :
    Calls Tryz.prog 60 #[.pointer (some ⟨a, 0, none⟩), .pointer (some ⟨b, 0, none⟩)] w fun e w' => e = .returned (.bool (inB n p q)) ∧ w = w' := by
  have c0 := cell0 hK
  have c1 := cell1 hK
  have a0 : w.cell? ⟨a, 0, none⟩ = some (.slice A n c) := hA.cell 0
  clear hK hA
  go_enter Tryz.func60, Tryz.ntmps60
  go_wp2_with fail
  go_at_call 50
  refine (inside_spec A n c p q _ hn).mono ?_
  rintro e w1 ⟨rfl, rfl⟩
  go_wp2
  go_ret
  exact ⟨rfl, rfl⟩
set_option maxHeartbeats 1000000 in
theorem may_spec (A : Option Addr) (n c : Nat) (p q t v : Int) (w : World) (hn : n ≤ 9223372036854775807) : Calls Tryz.prog 16 #[.slice A n c, .agg #[.int .i64 p, .int .i64 q, .int .i64 t, .int .i64 v]] w fun e w' => e = .returned (.int .i64 (mayE n p q t v)) ∧ Below w.heap.size w w' := by
  have HA := Lib.hid ((Blk.new w 29 #[.slice A n c]).alloc (.cells #[.int .i64 p, .int .i64 q, .int .i64 t, .int .i64 v] 36))
  have HK := Lib.hid (Blk.new_ (w := w.alloc (.cells #[.slice A n c] 29)) (g := w.heap.size + 1) (by simp) 36 #[.int .i64 p, .int .i64 q, .int .i64 t, .int .i64 v])
  have HF1 := Tryz.call58
  have HF2 := Tryz.call60
  go_enter Tryz.func16, Tryz.ntmps16
  go_wp2
  refine wp_loop_rounds 3 ?_
  rw [rounds_succ]
  go_wp2_with fail
  refine (may1_spec (w.heap.size + 1) p q t v _ ((HK.out.alloc _).alloc _)).mono ?_
  rintro e w1 ⟨rfl, hb⟩
  have HL := Lib.hid ((Blk.new_ (w := ((w.alloc (.cells #[.slice A n c] 29)).alloc (.cells #[.int .i64 p, .int .i64 q, .int .i64 t, .int .i64 v] 36))) (g := w.heap.size + 1 + 1) (by simp) _ _).alloc _ |>.pure hb)
  have HX := Lib.hid ((Blk.new_ (g := w.heap.size + 1 + 1 + 1) (by simp) _ _).pure hb)
  have HA := Lib.hid (((HA.out.alloc _).alloc _).pure hb)
  have HK := Lib.hid (((HK.out.alloc _).alloc _).pure hb)
  have HB := Lib.hid (((((Below.refl w.heap.size w).alloc (Nat.le_refl _) _).alloc (by simp) _).alloc (by simp; omega) _).alloc (by simp; omega) _ |>.trans (hb.mono (by simp; omega)))
  have hs : w.heap.size + 1 + 1 + 1 < w1.heap.size := by have := HX.out.lt; omega
  clear hb
  cases hf : formed q t v with
  | false =>
    have HE := Lib.hid (show mayE n p q t v = 2 by unfold mayE; rw [hf]; rfl)
    have x1 := (HX.out.cell 1).trans (show _ = some (Value.int .i64 2) from rfl)
    clear hf HF1 HF2
    go_wp2
    go_ret
    exact ⟨ret_int HE.out.symm, HB.out⟩
  | true =>
    have HE := Lib.hid (show mayE n p q t v = if inB n p q = true then 0 else 6 by unfold mayE; rw [hf]; rfl)
    have l2 := HL.out.cell 2
    have l3 := HL.out.cell 3
    simp only [List.getElem?_toArray, List.getElem?_cons_succ, List.getElem?_cons_zero] at l2 l3
    clear hf
    go_wp2
    rw [rounds_succ]
    go_wp2_with fail
    refine (may2_spec w.heap.size (w.heap.size + 1) A n c p q t v _ hn (HA.out.alloc _) (HK.out.alloc _)).mono ?_
    rintro e w2 ⟨rfl, rfl⟩
    clear l2 l3
    cases hi : inB n p q with
    | true =>
      have HI := Lib.hid hi
      clear hi
      go_wp2
      rw [rounds_succ]
      go_wp2
      go_ret
      exact ⟨ret_int (by rw [HE.out, HI.out]; rfl), HB.out.alloc (by omega) _⟩
    | false =>
      have HI := Lib.hid hi
      clear hi
      go_wp2
      go_ret
      exact ⟨ret_int (by rw [HE.out, HI.out]; rfl), HB.out.alloc (by omega) _⟩
end Go.Proofs.YtjhigmgkmmjlfaaGreat

namespace Go.Proofs.YtjhigmgkmmjlfaaGreat
open Go.RowKit Go.Acc
theorem ret_t2 {k k' : IntKind} {a b c d : Int} (h : a = b) (h' : c = d) : Ending.returned (.tuple #[.int k a, .int k' c]) = .returned (.tuple #[.int k b, .int k' d]) := by rw [h, h']
theorem inline_spec_b {w w' : World} (h : Below w.heap.size w w') : Below w.heap.size w w' := h
theorem rinline_spec_b {w w' : World} (h : w = w') : Below w.heap.size w w' := by subst h; exact Below.refl _ _
set_option maxHeartbeats 1000000 in
theorem target_spec (A : Option Addr) (n c : Nat) (p q t v : Int) (l : List UInt8) (w : World) (hl : IsB w A n l) (hc : n ≤ c) (hn : n ≤ 9223372036854775807) :
    Calls Tryz.prog 18 #[.slice A n c, .agg #[.int .i64 p, .int .i64 q, .int .i64 t, .int .i64 v]] w fun e w' => e = .returned (.tuple #[.int .i64 (tgt l p q t v), .int .i64 (tgtE l p q t v)]) ∧ Below w.heap.size w w' := by
  have hlen := hl.1
  subst hlen
  have HL := Lib.hid (hl.alloc (.cells #[.int .i64 p, .int .i64 q, .int .i64 t, .int .i64 v] 36))
  have HK := Lib.hid (Blk.new w 36 #[.int .i64 p, .int .i64 q, .int .i64 t, .int .i64 v])
  have HB := Lib.hid ((Below.refl w.heap.size w).alloc (Nat.le_refl _) (.cells #[.int .i64 p, .int .i64 q, .int .i64 t, .int .i64 v] 36))
  clear hl
  go_enter Tryz.func18, Tryz.ntmps18
  go_wp2_with fail
  go_at_call 16
  refine (may_spec A l.length c p q t v _ hn).mono ?_
  rintro e w1 ⟨rfl, hb⟩
  by_cases hm : mayE l.length p q t v = 0
  · rw [hm]
    have HB := Lib.hid (pure_below HB.out hb); have HK := Lib.hid (HK.out.pure hb); have HL := Lib.hid (HL.out.pure hb); have c0 := cell0 HK.out; have c1 := cell1 HK.out; have c2 := cell2 HK.out; have c3 := cell3 HK.out; clear hb
    go_wp2_with fail
    go_at_call 19
    refine (inline_spec t _).mono ?_
    rintro e w2 ⟨rfl, hb⟩
    have hb := inline_spec_b hb
    clear c0 c1 c2 c3
    cases hi : inlineT t with
    | true =>
      have HE := Lib.hid (tgtE_inl hm hi)
      have HT := Lib.hid (tgt_inl hm hi)
      have HB := Lib.hid (pure_below HB.out hb)
      clear hm hi hb
      go_wp2
      go_ret2
      exact ⟨ret_t2 HT.out.symm HE.out.symm, HB.out⟩
    | false =>
      obtain ⟨h1, h2⟩ := mayE_ok.1 hm
      have h2 := inB_iff.1 h2
      have h1 := formed_iff.1 h1
      have hp0 := h2.1
      have hpn := h2.2.2
      have hq1 : 1 ≤ q := by have := isW_iff.1 h1.2.1; omega
      have HLE := Lib.hid (may_load hm)
      have HB := Lib.hid (pure_below HB.out hb); have HK := Lib.hid (HK.out.pure hb); have HL := Lib.hid (HL.out.pure hb); have c0 := cell0 HK.out; have c1 := cell1 HK.out; have c2 := cell2 HK.out; have c3 := cell3 HK.out; clear hb
      go_wp2_with fail
      go_at_call 62
      refine (load_spec A l.length c p q _ _ HL.out hc hn).mono ?_
      rw [HLE.out]
      rintro e w3 ⟨rfl, hb⟩
      clear c0 c1 c2 c3
      have HB := Lib.hid (pure_below HB.out hb); have HK := Lib.hid (HK.out.pure hb); have HL := Lib.hid (HL.out.pure hb); have c0 := cell0 HK.out; have c1 := cell1 HK.out; have c2 := cell2 HK.out; have c3 := cell3 HK.out; clear hb
      by_cases hu : p < (loadU l p q : Int)
      · have HE := Lib.hid (tgtE_off hm hi hu)
        have HT := Lib.hid (tgt_off hm hi hu)
        generalize loadU l p q = u at hu
        clear hm hi h1 h2
        have hw : IntKind.u64.wrap p = p := u64_in p (by omega)
        go_wp2
        go_ret2
        exact ⟨ret_t2 HT.out.symm HE.out.symm, HB.out⟩
      · have HE := Lib.hid (tgtE_ok hm hi hu)
        have HT := Lib.hid (tgt_ok hm hi hu)
        have HU := Lib.hid (show loadU l p q = loadU l p q from rfl)
        obtain ⟨u, hue⟩ : ∃ u, loadU l p q = u := ⟨_, rfl⟩
        rw [hue] at hu HT ⊢
        clear hm hi h1 h2 hue HU
        have hw : IntKind.u64.wrap p = p := u64_in p (by omega)
        have hw2 : wrap64 (u : Int) = u := wrap64_in _ (by omega)
        have hw3 : wrap64 (p - (u : Int)) = p - u := wrap64_in _ (by omega)
        go_wp2
        go_ret2
        exact ⟨ret_t2 HT.out.symm HE.out.symm, HB.out⟩
  · have HE := Lib.hid (tgtE_may hm)
    have HT := Lib.hid (tgt_may hm)
    have hne : (mayE l.length p q t v != 0) = true := by simpa using hm
    have HB := Lib.hid (pure_below HB.out hb); have HK := Lib.hid (HK.out.pure hb); have HL := Lib.hid (HL.out.pure hb); have c0 := cell0 HK.out; have c1 := cell1 HK.out; have c2 := cell2 HK.out; have c3 := cell3 HK.out; clear hb
    clear hm
    go_wp2
    go_ret2
    exact ⟨ret_t2 HT.out.symm HE.out.symm, HB.out⟩
end Go.Proofs.YtjhigmgkmmjlfaaGreat
