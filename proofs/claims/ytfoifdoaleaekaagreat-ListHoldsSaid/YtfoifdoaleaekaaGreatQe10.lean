/-
  Package width: the least width of an integer.
  Package width: the least width of a signed integer; package minimal: whether a number fits.
  Package build: unless, inline; the values of numbers and booleans.
  Package build: the inline values are pushed.
  Package build: an indirect number is written.
-/
import Derived.Test.YtfoifdoaleaekaaGreatQe09
import Derived.Shelf.Strconv.Itoa0
import Derived.Ground.NamesProg
import Derived.Laws.DeepNot64
namespace Go.Proofs.YtfoifdoaleaekaaGreat
open Go.Shelf Go.RowKit Go.Acc
def len64_ren : Go.Shelf.Ren := ⟨fun | 129 => 154 | n => n, fun | 3 => 3 | 4 => 4 | 5 => 5 | 9 => 9 | 46 => 146 | 53 => 22 | n => n, fun | n => n⟩
theorem len64_lay : Go.Proofs.Lays.n129 Tryz.prog len64_ren := {
  mixed := by kernel_rfl
  f129 := Tryz.func154.trans (congrArg some (by kernel_rfl))
  t3 := Tryz.underlying3
  a3 := Tryz.isAgg3
  z3 := Tryz.sizeOf3
  v3 := Tryz.zeroValue3
  t4 := Tryz.underlying4
  a4 := Tryz.isAgg4
  z4 := Tryz.sizeOf4
  v4 := Tryz.zeroValue4
  t5 := Tryz.underlying5
  a5 := Tryz.isAgg5
  z5 := Tryz.sizeOf5
  v5 := Tryz.zeroValue5
  t9 := Tryz.underlying9
  a9 := Tryz.isAgg9
  z9 := Tryz.sizeOf9
  v9 := Tryz.zeroValue9
  t46 := Tryz.underlying146
  a46 := Tryz.isAgg146
  z46 := Tryz.sizeOf146
  v46 := Tryz.zeroValue146
  t53 := Tryz.underlying22
  a53 := Tryz.isAgg22
  z53 := Tryz.sizeOf22
  v53 := Tryz.zeroValue22 }
theorem len64_spec (u : Nat) (w : World) (h : u < 18446744073709551616) : Calls Tryz.prog 154 #[.int .u64 u] w fun e w' => e = .returned (.int .i64 (Lib.bitLen u)) ∧ w = w' := by
  have h := Any.bits_Len64 len64_lay (u : Int) w (by omega) (by omega)
  change Calls Tryz.prog 154 _ _ _ at h
  exact h.mono fun _ _ ⟨he, hw⟩ => ⟨by rw [he, Int.toNat_natCast], hw.symm⟩
def wdN (m : Int) : Int := if m ≤ 8 then 1 else if m ≤ 16 then 2 else if m ≤ 32 then 4 else 8
set_option maxHeartbeats 400000 in
theorem least_is (m r : Int) (w : World) (h : wdN m = r) : Calls Tryz.prog 245 #[.int .i64 m] w fun e w' => e = .returned (.int .i64 r) ∧ w = w' := by
  unfold wdN at h
  by_cases h1 : m ≤ 8
  · rw [if_pos h1] at h
    subst h
    go_enter Tryz.func245, Tryz.ntmps245
    go_wp2
    refine wp_loop_rounds 5 ?_
    repeat (rw [rounds_succ]; go_wp2)
    all_goals
      go_ret
      exact ⟨rfl, rfl⟩
  · rw [if_neg h1] at h
    by_cases h2 : m ≤ 16
    · rw [if_pos h2] at h
      subst h
      go_enter Tryz.func245, Tryz.ntmps245
      go_wp2
      refine wp_loop_rounds 5 ?_
      repeat (rw [rounds_succ]; go_wp2)
      all_goals
        go_ret
        exact ⟨rfl, rfl⟩
    · rw [if_neg h2] at h
      by_cases h3 : m ≤ 32
      · rw [if_pos h3] at h
        subst h
        go_enter Tryz.func245, Tryz.ntmps245
        go_wp2
        refine wp_loop_rounds 5 ?_
        repeat (rw [rounds_succ]; go_wp2)
        all_goals
          go_ret
          exact ⟨rfl, rfl⟩
      · rw [if_neg h3] at h
        subst h
        by_cases h4 : m ≤ 64
        · go_enter Tryz.func245, Tryz.ntmps245
          go_wp2
          refine wp_loop_rounds 5 ?_
          repeat (rw [rounds_succ]; go_wp2)
          all_goals
            go_ret
            exact ⟨rfl, rfl⟩
        · go_enter Tryz.func245, Tryz.ntmps245
          go_wp2
          refine wp_loop_rounds 5 ?_
          repeat (rw [rounds_succ]; go_wp2)
          all_goals
            go_ret
            exact ⟨rfl, rfl⟩
def wdU (u : Nat) : Int := if u < 256 then 1 else if u < 65536 then 2 else if u < 4294967296 then 4 else 8
def wdI (n : Int) : Int := if -128 ≤ n ∧ n < 128 then 1 else if -32768 ≤ n ∧ n < 32768 then 2 else if -2147483648 ≤ n ∧ n < 2147483648 then 4 else 8
theorem bl_iff (u k : Nat) (hk : k ≤ 63) (hu : u < 18446744073709551616) : Lib.bitLen u ≤ k ↔ u < 2 ^ k := by
  constructor
  · intro h
    refine Decidable.byContradiction fun hn => ?_
    have h1 := Lib.bitLen_shift k u (by omega) hu
    have hp : 0 < 2 ^ k := Nat.two_pow_pos k
    have h2 : u / 2 ^ k ≠ 0 := by
      intro e
      have := (Nat.div_eq_zero_iff).1 e
      omega
    have h3 := Lib.bitLen_half (u / 2 ^ k) h2 (Nat.lt_of_le_of_lt (Nat.div_le_self _ _) hu)
    omega
  · intro h
    exact Lib.bitLen_le u k (by omega) h
theorem wdU_bits (u : Nat) (hu : u < 18446744073709551616) : wdN (Lib.bitLen u) = wdU u := by
  have h1 := bl_iff u 8 (by omega) hu
  have h2 := bl_iff u 16 (by omega) hu
  have h3 := bl_iff u 32 (by omega) hu
  simp only [Nat.reducePow] at h1 h2 h3
  unfold wdN wdU
  by_cases c1 : u < 256
  · rw [if_pos c1, if_pos (by have := h1.2 c1; omega)]
  · rw [if_neg c1, if_neg (by have := mt h1.1 c1; omega)]
    by_cases c2 : u < 65536
    · rw [if_pos c2, if_pos (by have := h2.2 c2; omega)]
    · rw [if_neg c2, if_neg (by have := mt h2.1 c2; omega)]
      by_cases c3 : u < 4294967296
      · rw [if_pos c3, if_pos (by have := h3.2 c3; omega)]
      · rw [if_neg c3, if_neg (by have := mt h3.1 c3; omega)]
set_option maxHeartbeats 400000 in
theorem wof_is (u : Nat) (r : Int) (w : World) (hu : u < 18446744073709551616) (h : wdU u = r) : Calls Tryz.prog 215 #[.int .u64 u] w fun e w' => e = .returned (.int .i64 r) ∧ w = w' := by
  obtain ⟨k, hk⟩ : ∃ k, Lib.bitLen u = k := ⟨_, rfl⟩
  have hw := wdU_bits u hu
  rw [hk, h] at hw
  have hl := len64_spec u w hu
  rw [hk] at hl
  have HW := Lib.hid hw
  have HL := Lib.hid hl
  clear hk hw hl h hu
  go_enter Tryz.func215, Tryz.ntmps215
  go_wp2_with fail
  go_at_call 154
  refine HL.out.mono ?_
  rintro e w' ⟨rfl, rfl⟩
  go_wp2_with fail
  go_at_call 245
  refine (least_is k r _ HW.out).mono ?_
  rintro e w' ⟨rfl, rfl⟩
  go_wp2
  go_ret
  exact ⟨rfl, rfl⟩
end Go.Proofs.YtfoifdoaleaekaaGreat

namespace Go.Proofs.YtfoifdoaleaekaaGreat
open Go.Shelf Go.RowKit Go.Acc
theorem wdI_pos (u : Nat) (hu : u < 9223372036854775808) : wdN (1 + Lib.bitLen u) = wdI (u : Int) ∧ wdI (-(u : Int) - 1) = wdI (u : Int) := by
  have h1 := bl_iff u 7 (by omega) (by omega)
  have h2 := bl_iff u 15 (by omega) (by omega)
  have h3 := bl_iff u 31 (by omega) (by omega)
  simp only [Nat.reducePow] at h1 h2 h3
  constructor
  · unfold wdN wdI
    by_cases c1 : u < 128
    · rw [if_pos (show (-128 : Int) ≤ u ∧ (u : Int) < 128 by omega), if_pos (by have := h1.2 c1; omega)]
    · rw [if_neg (show ¬ ((-128 : Int) ≤ u ∧ (u : Int) < 128) by omega), if_neg (by have := mt h1.1 c1; omega)]
      by_cases c2 : u < 32768
      · rw [if_pos (show (-32768 : Int) ≤ u ∧ (u : Int) < 32768 by omega), if_pos (by have := h2.2 c2; omega)]
      · rw [if_neg (show ¬ ((-32768 : Int) ≤ u ∧ (u : Int) < 32768) by omega), if_neg (by have := mt h2.1 c2; omega)]
        by_cases c3 : u < 2147483648
        · rw [if_pos (show (-2147483648 : Int) ≤ u ∧ (u : Int) < 2147483648 by omega), if_pos (by have := h3.2 c3; omega)]
        · rw [if_neg (show ¬ ((-2147483648 : Int) ≤ u ∧ (u : Int) < 2147483648) by omega), if_neg (by have := mt h3.1 c3; omega)]
  · unfold wdI
    (repeat' split) <;> omega
theorem xor_zero (a : Nat) (ha : a < 9223372036854775808) : Go.bits .xor .i64 (a : Int) 0 = a := by
  show IntKind.i64.wrap ((BitVec.ofInt 64 (a : Int) ^^^ BitVec.ofInt 64 0).toNat : Int) = _
  have h1 : BitVec.ofInt 64 0 = 0#64 := by decide
  rw [h1, BitVec.xor_zero, ofInt_u64 a (by omega)]
  simp [IntKind.wrap, IntKind.bits, IntKind.signed]
  omega
theorem xor_ones (a : Nat) (ha : a < 9223372036854775808) : Go.bits .xor .i64 (-(a : Int) - 1) (-1) = a := by
  show IntKind.i64.wrap ((BitVec.ofInt 64 (-(a : Int) - 1) ^^^ BitVec.ofInt 64 (-1)).toNat : Int) = _
  have h1 : BitVec.ofInt 64 (-1) = BitVec.allOnes 64 := by decide
  have h2 : (BitVec.ofInt 64 (-(a : Int) - 1)).toNat = 18446744073709551615 - a := by
    rw [BitVec.toNat_ofInt]
    omega
  rw [h1, BitVec.xor_allOnes, BitVec.toNat_not, h2]
  simp [IntKind.wrap, IntKind.bits, IntKind.signed]
  omega
set_option maxHeartbeats 400000 in
theorem wofi_is (n r : Int) (w : World) (h0 : -9223372036854775808 ≤ n ∧ n ≤ 9223372036854775807) (h : wdI n = r) : Calls Tryz.prog 214 #[.int .i64 n] w fun e w' => e = .returned (.int .i64 r) ∧ w = w' := by
  obtain ⟨u, hu, hn, hx⟩ : ∃ u : Nat, u < 9223372036854775808 ∧ wdI (u : Int) = r ∧ Go.bits .xor .i64 n (n / 9223372036854775808) = u := by
    by_cases hn : 0 ≤ n
    · obtain ⟨u, rfl⟩ := Int.eq_ofNat_of_zero_le hn
      refine ⟨u, by omega, h, ?_⟩
      rw [show (u : Int) / 9223372036854775808 = 0 by omega]
      exact xor_zero u (by omega)
    · obtain ⟨u, rfl⟩ : ∃ u : Nat, n = -(u : Int) - 1 := ⟨(-n - 1).toNat, by omega⟩
      refine ⟨u, by omega, by rw [← (wdI_pos u (by omega)).2]; exact h, ?_⟩
      rw [show (-(u : Int) - 1) / 9223372036854775808 = -1 by omega]
      exact xor_ones u (by omega)
  obtain ⟨k, hk⟩ : ∃ k, Lib.bitLen u = k := ⟨_, rfl⟩
  have hw := (wdI_pos u hu).1
  rw [hk, hn] at hw
  have hl := len64_spec u w (by omega)
  rw [hk] at hl
  have hk2 : k ≤ 64 := by rw [← hk]; exact Lib.bitLen_le u 64 (by omega) (by omega)
  have hwr : IntKind.u64.wrap (u : Int) = u := by rw [IntKind.wrap_u64]; omega
  have HW := Lib.hid hw
  have HL := Lib.hid hl
  have HX := Lib.hid hx
  clear hk hw hl h hn hx
  go_enter Tryz.func214, Tryz.ntmps214
  go_wp2_with fail
  go_at_call 154
  rw [HX.out, hwr]
  refine HL.out.mono ?_
  rintro e w' ⟨rfl, rfl⟩
  go_wp2_with fail
  go_at_call 245
  refine (least_is (1 + (k : Int)) r _ HW.out).mono ?_
  rintro e w' ⟨rfl, rfl⟩
  go_wp2
  go_ret
  exact ⟨rfl, rfl⟩
end Go.Proofs.YtfoifdoaleaekaaGreat

namespace Go.Proofs.YtfoifdoaleaekaaGreat
open Go.RowKit Go.Acc
theorem unless_spec (M : Bp) (fl : Int) (F : Nat) (caps : Array Value) (w : World) (o : Nat → Nat) (vals : List Bv) (R : Ending → World → Prop) (h : HeadO M fl w o vals)
    (hF : ∀ (args : Array Value) (w : World), (callFunc F args).run Tryz.prog w = .ok (.enter F args) w)
    (hc : Calls Tryz.prog F caps w fun e w' => e = .returned (.tuple #[]) ∧ R e w') :
    Calls Tryz.prog 163 #[.pointer (some ⟨M.β, 0, none⟩), .func (.func F) #[] caps] w R := by
  have H := Lib.hid h
  have HC := Lib.hid hc
  clear h hc
  go_enter Tryz.func163, Tryz.ntmps163
  go_wp2_with (go_at_call 216; refine (cerr_is H.out).mono ?_; rintro e w' ⟨rfl, rfl⟩)
  refine HC.out.mono ?_
  rintro e w' ⟨rfl, hR⟩
  have HR := Lib.hid hR
  clear hR hF
  go_wp2
  go_end0
  exact HR.out
theorem wdU_b (u : Nat) : wdU u = (bWidth u : Nat) := by unfold wdU bWidth; (repeat' split) <;> rfl
theorem wdI_b (n : Int) : wdI n = (bWidthI n : Nat) := by unfold wdI bWidthI; (repeat' split) <;> rfl
theorem bits_u64 (n : Int) : IntKind.u64.wrap n = (bits n : Nat) := wrapu n
theorem num_spec (n : Int) (w : World) (h : -9223372036854775808 ≤ n ∧ n ≤ 9223372036854775807) :
    Calls Tryz.prog 158 #[.int .i64 n] w fun e w' => e = .returned (.agg #[.int .i64 ((numV n).t : Int), .int .i64 ((numV n).w : Int), .int .u64 ((numV n).n : Int)]) ∧ Below w.heap.size w w' := by
  have HB := Lib.hid (bits_u64 n)
  have HW := Lib.hid (wdI_b n)
  have H := Lib.hid h
  clear h
  go_enter Tryz.func158, Tryz.ntmps158
  go_wp2_with fail
  go_at_call 214
  refine (wofi_is n _ _ H.out HW.out).mono ?_
  rintro e w' ⟨rfl, rfl⟩
  go_wp2_with fail
  refine bodyPost_ret (v := .agg #[.int .i64 ((numV n).t : Int), .int .i64 ((numV n).w : Int), .int .u64 ((numV n).n : Int)]) (by simp [results, Tryz.results158, go_sem, HB.out, numV]) rfl ⟨rfl, ?_⟩
  exact (Below.refl _ _).alloc (Nat.le_refl _) _
theorem uns_spec (u : Nat) (w : World) (h : u < 18446744073709551616) :
    Calls Tryz.prog 160 #[.int .u64 (u : Int)] w fun e w' => e = .returned (.agg #[.int .i64 ((unsV u).t : Int), .int .i64 ((unsV u).w : Int), .int .u64 ((unsV u).n : Int)]) ∧ Below w.heap.size w w' := by
  have HW := Lib.hid (wdU_b u)
  have H := Lib.hid h
  clear h
  go_enter Tryz.func160, Tryz.ntmps160
  go_wp2_with fail
  go_at_call 215
  refine (wof_is u _ _ H.out HW.out).mono ?_
  rintro e w' ⟨rfl, rfl⟩
  go_wp2_with fail
  refine bodyPost_ret (v := .agg #[.int .i64 ((unsV u).t : Int), .int .i64 ((unsV u).w : Int), .int .u64 ((unsV u).n : Int)]) (by simp [results, Tryz.results160, go_sem, unsV]) rfl ⟨rfl, ?_⟩
  exact (Below.refl _ _).alloc (Nat.le_refl _) _
theorem truth_spec (n : Int) (t : Bool) (w : World) (h : decide (n = 1) = t) :
    Calls Tryz.prog 162 #[.bool t] w fun e w' => e = .returned (.agg #[.int .i64 ((truthV n).t : Int), .int .i64 ((truthV n).w : Int), .int .u64 ((truthV n).n : Int)]) ∧ Below w.heap.size w w' := by
  cases t with
  | true =>
    have e : truthV n = ⟨26, 1, 1⟩ := by unfold truthV; rw [if_pos (of_decide_eq_true h)]
    rw [e]
    clear h e
    go_enter Tryz.func162, Tryz.ntmps162
    go_wp2_with fail
    refine bodyPost_ret (v := .agg #[.int .i64 26, .int .i64 1, .int .u64 1]) (by simp [results, Tryz.results162, go_sem]) rfl ⟨rfl, ?_⟩
    exact ((Below.refl _ _).alloc (Nat.le_refl _) _).alloc (by simp) _
  | false =>
    have e : truthV n = ⟨26, 1, 0⟩ := by unfold truthV; rw [if_neg (of_decide_eq_false h)]
    rw [e]
    clear h e
    go_enter Tryz.func162, Tryz.ntmps162
    go_wp2_with fail
    refine bodyPost_ret (v := .agg #[.int .i64 26, .int .i64 1, .int .u64 0]) (by simp [results, Tryz.results162, go_sem]) rfl ⟨rfl, ?_⟩
    exact ((Below.refl _ _).alloc (Nat.le_refl _) _).alloc (by simp) _
theorem low_cut (n k : Nat) (hk : k ≤ 64) : IntKind.u64.wrap ((n : Int) * 2 ^ (64 - k)) / 2 ^ (64 - k) = (n % 2 ^ k : Nat) := by
  have e : ((n : Int) * 2 ^ (64 - k)) = ((n * 2 ^ (64 - k) : Nat) : Int) := by simp
  rw [e, wrapu]
  have h2 : (2 : Nat) ^ 64 = 2 ^ k * 2 ^ (64 - k) := by rw [← Nat.pow_add]; congr 1; omega
  have h3 : (((n * 2 ^ (64 - k) : Nat) : Int) % 18446744073709551616).toNat = (n % 2 ^ k) * 2 ^ (64 - k) := by
    have : (((n * 2 ^ (64 - k) : Nat) : Int) % 18446744073709551616).toNat = (n * 2 ^ (64 - k)) % 2 ^ 64 := by
      show _ = (n * 2 ^ (64 - k)) % 18446744073709551616
      omega
    rw [this, h2, Nat.mul_mod_mul_right]
  rw [h3]
  have hp : 0 < 2 ^ (64 - k) := Nat.two_pow_pos _
  rw [show ((2 : Int) ^ (64 - k)) = ((2 ^ (64 - k) : Nat) : Int) by simp, ← Int.natCast_ediv, Nat.mul_div_cancel _ hp]
set_option maxHeartbeats 400000 in
theorem low_spec (n y : Nat) (w : World) (hy : isW (y : Int) = true) :
    Calls Tryz.prog 131 #[.int .u64 (n : Int), .int .i64 (y : Int)] w fun e w' => e = .returned (.int .u64 ((n % 2 ^ (8 * y) : Nat) : Int)) ∧ w = w' := by
  rcases w_cases hy with rfl | rfl | rfl | rfl
  · have HL := Lib.hid (show IntKind.u64.wrap ((n : Int) * 72057594037927936) / 72057594037927936 = ((n % 2 ^ (8 * 1) : Nat) : Int) from low_cut n 8 (by omega))
    clear hy
    go_enter Tryz.func131, Tryz.ntmps131
    go_wp2_with fail
    go_ret
    exact ⟨ret_int HL.out, rfl⟩
  · have HL := Lib.hid (show IntKind.u64.wrap ((n : Int) * 281474976710656) / 281474976710656 = ((n % 2 ^ (8 * 2) : Nat) : Int) from low_cut n 16 (by omega))
    clear hy
    go_enter Tryz.func131, Tryz.ntmps131
    go_wp2_with fail
    go_ret
    exact ⟨ret_int HL.out, rfl⟩
  · have HL := Lib.hid (show IntKind.u64.wrap ((n : Int) * 4294967296) / 4294967296 = ((n % 2 ^ (8 * 4) : Nat) : Int) from low_cut n 32 (by omega))
    clear hy
    go_enter Tryz.func131, Tryz.ntmps131
    go_wp2_with fail
    go_ret
    exact ⟨ret_int HL.out, rfl⟩
  · have HL := Lib.hid (show IntKind.u64.wrap (n : Int) = ((n % 2 ^ (8 * 8) : Nat) : Int) by have h := low_cut n 64 (by omega); simpa using h)
    clear hy
    go_enter Tryz.func131, Tryz.ntmps131
    go_wp2_with fail
    go_ret
    exact ⟨ret_int HL.out, rfl⟩
end Go.Proofs.YtfoifdoaleaekaaGreat

namespace Go.Proofs.YtfoifdoaleaekaaGreat
open Go.RowKit Go.Acc
set_option maxRecDepth 100000 in
set_option maxHeartbeats 1000000 in
theorem inline1_spec (M : Bp) (fl : Int) (b : Bd) (v : Bv) (bx bv : Nat) (w : World) (o : Nat → Nat) (h : BM M fl w o b) (hs : b.s.length < 65536)
    (hx : Blk w bx 122 #[.pointer (some ⟨M.β, 0, none⟩)]) (hv : Blk w bv 185 #[.int .i64 (v.t : Int), .int .i64 (v.w : Int), .int .u64 (v.n : Int)]) (ox : o bx = 0) (ov : o bv = 0) :
    Calls Tryz.prog 253 #[.pointer (some ⟨bx, 0, none⟩), .pointer (some ⟨bv, 0, none⟩)] w (BTo M fl (b.push v) w o) := by
  have H := Lib.hid h
  have HS := Lib.hid hs
  have x0 : w.cell? ⟨bx, 0, none⟩ = some (.pointer (some ⟨M.β, 0, none⟩)) := hx.cell 0
  have v0 : w.cell? ⟨bv, 0, none⟩ = some (.int .i64 (v.t : Int)) := hv.cell 0
  have v1 : w.cell? ⟨bv, 1, none⟩ = some (.int .i64 (v.w : Int)) := hv.cell 1
  have v2 : w.cell? ⟨bv, 2, none⟩ = some (.int .u64 (v.n : Int)) := hv.cell 2
  have HD := Lib.hid (h.pure (Below.refl _ _).drew)
  have n1 : ¬ Bld (o bx) := by rw [ox]; exact bld_0
  have n2 : ¬ Bld (o bv) := by rw [ov]; exact bld_0
  have HN1 := Lib.hid n1
  have HN2 := Lib.hid n2
  clear h hs hx hv n1 n2 ox ov
  go_enter Tryz.func253, Tryz.ntmps253
  go_region_held3 (fun w' => w'.cell? ⟨bx, 0, none⟩ = some (.pointer (some ⟨M.β, 0, none⟩)) ∧ w'.cell? ⟨bv, 0, none⟩ = some (.int .i64 (v.t : Int)) ∧ w'.cell? ⟨bv, 1, none⟩ = some (.int .i64 (v.w : Int)) ∧ w'.cell? ⟨bv, 2, none⟩ = some (.int .u64 (v.n : Int))) (first | with_reducible exact ⟨x0, v0, v1, v2⟩ | with_reducible exact ⟨kdrew x0, kdrew v0, kdrew v1, kdrew v2⟩ | with_reducible exact ⟨y1, y2, y3, y4⟩) (first | (go_at_call 173; (with_reducible refine (pushp_spec M fl b v _ o HD.out HS.out).mono ?_); rintro e W4 ⟨rfl, o4, hS4, hT4⟩; have y1 := hT4.cell (kdrew x0) HN1.out; have y2 := hT4.cell (kdrew v0) HN2.out; have y3 := hT4.cell (kdrew v1) HN2.out; have y4 := hT4.cell (kdrew v2) HN2.out; have HR := Lib.hid (And.intro hS4 hT4); clear hS4 hT4))
  go_end0
  exact ⟨rfl, o4, HR.out.1, HR.out.2.from_drew⟩
theorem below_two (w : World) (x y : Obj) : Below w.heap.size w ((w.alloc x).alloc y) := ((Below.refl _ _).alloc (Nat.le_refl _) _).alloc (by simp) _
set_option maxHeartbeats 1000000 in
theorem cinline_spec (M : Bp) (fl : Int) (b : Bd) (v : Bv) (w : World) (o : Nat → Nat) (h : BM M fl w o b) (hs : b.s.length < 65536) :
    Calls Tryz.prog 227 #[.pointer (some ⟨M.β, 0, none⟩), .agg #[.int .i64 (v.t : Int), .int .i64 (v.w : Int), .int .u64 (v.n : Int)]] w (BTo M fl (b.push v) w o) := by
  have HS := Lib.hid hs
  have hB := below_two w (.cells #[.pointer (some ⟨M.β, 0, none⟩)] 122) (.cells #[.int .i64 (v.t : Int), .int .i64 (v.w : Int), .int .u64 (v.n : Int)] 185)
  have HB := Lib.hid hB
  have HM := Lib.hid (h.fresh hB 0)
  have HK1 := Lib.hid ((Blk.new w 122 #[.pointer (some ⟨M.β, 0, none⟩)]).alloc (.cells #[.int .i64 (v.t : Int), .int .i64 (v.w : Int), .int .u64 (v.n : Int)] 185))
  have HK2 := Lib.hid (blk_new2 w (.cells #[.pointer (some ⟨M.β, 0, none⟩)] 122) 185 #[.int .i64 (v.t : Int), .int .i64 (v.w : Int), .int .u64 (v.n : Int)])
  clear h hs hB
  go_enter Tryz.func227, Tryz.ntmps227
  go_wp2_with fail
  go_at_call 163
  refine (unless_spec M fl 253 _ _ (newO o w.heap.size 0) b.vals _ HM.out.head Tryz.call253 ((inline1_spec M fl b v w.heap.size (w.heap.size + 1) _ (newO o w.heap.size 0) HM.out HS.out HK1.out HK2.out (newO_new (Nat.le_refl _)) (newO_new (Nat.le_succ _))).mono fun e w' h => ⟨h.1, h⟩)).mono ?_
  rintro e w' hR
  obtain rfl := hR.1
  have HR := Lib.hid (hR.from_fresh HB.out)
  clear hR
  go_wp2
  go_end0
  exact HR.out
set_option maxHeartbeats 400000 in
theorem cnull_spec (M : Bp) (fl : Int) (b : Bd) (w : World) (o : Nat → Nat) (h : BM M fl w o b) (hs : b.s.length < 65536) :
    Calls Tryz.prog 180 #[.pointer (some ⟨M.β, 0, none⟩)] w (BTo M fl (b.push ⟨0, 1, 0⟩) w o) := by
  have H := Lib.hid h
  have HS := Lib.hid hs
  clear h hs
  go_enter Tryz.func180, Tryz.ntmps180
  go_wp2_with fail
  go_at_call 227
  refine (cinline_spec M fl b ⟨0, 1, 0⟩ _ o H.out HS.out).mono ?_
  intro e w2 hR
  obtain rfl := hR.1
  have HR := Lib.hid hR
  clear hR
  go_wp2
  go_end0
  exact HR.out
set_option maxHeartbeats 400000 in
theorem cint_spec (M : Bp) (fl : Int) (b : Bd) (n : Int) (w : World) (o : Nat → Nat) (h : BM M fl w o b) (hs : b.s.length < 65536) (hn : -9223372036854775808 ≤ n ∧ n ≤ 9223372036854775807) :
    Calls Tryz.prog 182 #[.pointer (some ⟨M.β, 0, none⟩), .int .i64 n] w (BTo M fl (b.push (numV n)) w o) := by
  have H := Lib.hid h
  have HS := Lib.hid hs
  have HN := Lib.hid hn
  clear h hs hn
  go_enter Tryz.func182, Tryz.ntmps182
  go_wp2_with fail
  go_at_call 158
  refine (num_spec n _ HN.out).mono ?_
  rintro e w1 ⟨rfl, hB⟩
  have HB := Lib.hid hB
  clear hB
  go_wp2_with fail
  go_at_call 227
  refine (cinline_spec M fl b (numV n) _ o (H.out.pure HB.out) HS.out).mono ?_
  intro e w2 hR
  obtain rfl := hR.1
  have HR := Lib.hid (hR.from_pure HB.out)
  clear hR
  go_wp2
  go_end0
  exact HR.out
set_option maxHeartbeats 400000 in
theorem cuint_spec (M : Bp) (fl : Int) (b : Bd) (u : Nat) (w : World) (o : Nat → Nat) (h : BM M fl w o b) (hs : b.s.length < 65536) (hu : u < 18446744073709551616) :
    Calls Tryz.prog 183 #[.pointer (some ⟨M.β, 0, none⟩), .int .u64 (u : Int)] w (BTo M fl (b.push (unsV u)) w o) := by
  have H := Lib.hid h
  have HS := Lib.hid hs
  have HN := Lib.hid hu
  clear h hs hu
  go_enter Tryz.func183, Tryz.ntmps183
  go_wp2_with fail
  go_at_call 160
  refine (uns_spec u _ HN.out).mono ?_
  rintro e w1 ⟨rfl, hB⟩
  have HB := Lib.hid hB
  clear hB
  go_wp2_with fail
  go_at_call 227
  refine (cinline_spec M fl b (unsV u) _ o (H.out.pure HB.out) HS.out).mono ?_
  intro e w2 hR
  obtain rfl := hR.1
  have HR := Lib.hid (hR.from_pure HB.out)
  clear hR
  go_wp2
  go_end0
  exact HR.out
set_option maxHeartbeats 400000 in
theorem cbool_spec (M : Bp) (fl : Int) (b : Bd) (n : Int) (t : Bool) (w : World) (o : Nat → Nat) (h : BM M fl w o b) (hs : b.s.length < 65536) (ht : decide (n = 1) = t) :
    Calls Tryz.prog 181 #[.pointer (some ⟨M.β, 0, none⟩), .bool t] w (BTo M fl (b.push (truthV n)) w o) := by
  have H := Lib.hid h
  have HS := Lib.hid hs
  have HN := Lib.hid ht
  clear h hs ht
  go_enter Tryz.func181, Tryz.ntmps181
  go_wp2_with fail
  go_at_call 162
  refine (truth_spec n t _ HN.out).mono ?_
  rintro e w1 ⟨rfl, hB⟩
  have HB := Lib.hid hB
  clear hB
  go_wp2_with fail
  go_at_call 227
  refine (cinline_spec M fl b (truthV n) _ o (H.out.pure HB.out) HS.out).mono ?_
  intro e w2 hR
  obtain rfl := hR.1
  have HR := Lib.hid (hR.from_pure HB.out)
  clear hR
  go_wp2
  go_end0
  exact HR.out
end Go.Proofs.YtfoifdoaleaekaaGreat

namespace Go.Proofs.YtfoifdoaleaekaaGreat
open Go.RowKit Go.Acc
structure ApC (M : Bp) (v : Bv) (t bx bv bt : Nat) (w : World) (o : Nat → Nat) : Prop where
  x : Blk w bx 122 #[.pointer (some ⟨M.β, 0, none⟩)]
  v : Blk w bv 185 #[.int .i64 (v.t : Int), .int .i64 (v.w : Int), .int .u64 (v.n : Int)]
  t : Blk w bt 3 #[.int .i64 (t : Int)]
  ox : o bx = 0
  ov : o bv = 0
  ot : o bt = 0
theorem ApC.to_ {M : Bp} {v : Bv} {t bx bv bt : Nat} {w w' : World} {o o' : Nat → Nat} {I : Nat → Prop} (h : ApC M v t bx bv bt w o) (ht : To I w o w' o') (hI : ¬ I 0) : ApC M v t bx bv bt w' o' :=
  ⟨h.x.to_ ht (by rw [h.ox]; exact hI), h.v.to_ ht (by rw [h.ov]; exact hI), h.t.to_ ht (by rw [h.ot]; exact hI), by rw [ht.ow _ h.x.lt]; exact h.ox, by rw [ht.ow _ h.v.lt]; exact h.ov, by rw [ht.ow _ h.t.lt]; exact h.ot⟩
theorem ApC.cells {M : Bp} {v : Bv} {t bx bv bt : Nat} {w : World} {o : Nat → Nat} (h : ApC M v t bx bv bt w o) :
    w.cell? ⟨bx, 0, none⟩ = some (.pointer (some ⟨M.β, 0, none⟩)) ∧ w.cell? ⟨bv, 0, none⟩ = some (.int .i64 (v.t : Int)) ∧ w.cell? ⟨bv, 1, none⟩ = some (.int .i64 (v.w : Int)) ∧ w.cell? ⟨bv, 2, none⟩ = some (.int .u64 (v.n : Int)) ∧ w.cell? ⟨bt, 0, none⟩ = some (.int .i64 (t : Int)) :=
  ⟨h.x.cell 0, h.v.cell 0, h.v.cell 1, h.v.cell 2, h.t.cell 0⟩
theorem ApC.drew {M : Bp} {v : Bv} {t bx bv bt : Nat} {w : World} {o : Nat → Nat} (h : ApC M v t bx bv bt w o) : ApC M v t bx bv bt w.drew o := ⟨h.x, h.v, h.t, h.ox, h.ov, h.ot⟩
theorem ApC.drewN {M : Bp} {v : Bv} {t bx bv bt : Nat} {w : World} {o : Nat → Nat} (n : Nat) (h : ApC M v t bx bv bt w o) : ApC M v t bx bv bt (w.drewN n) o := ⟨h.x, h.v, h.t, h.ox, h.ov, h.ot⟩
theorem BM.drew {M : Bp} {fl : Int} {w : World} {o : Nat → Nat} {b : Bd} (h : BM M fl w o b) : BM M fl w.drew o b := h.pure (Below.refl _ _).drew
theorem fits_low (n y : Nat) : fitsU y (n % 2 ^ (8 * y)) = true := decide_eq_true (.inr (Nat.mod_lt _ (Nat.two_pow_pos _)))
theorem low_lt (n : Nat) {y : Nat} (hy : isW (y : Int) = true) : ((n % 2 ^ (8 * y) : Nat) : Int) < 18446744073709551616 := by
  have h := Nat.mod_lt n (Nat.two_pow_pos (8 * y))
  have h2 : 2 ^ (8 * y) ≤ 2 ^ 64 := Nat.pow_le_pow_right (by omega) (by have := w_cases hy; omega)
  have h3 : n % 2 ^ (8 * y) < 18446744073709551616 := Nat.lt_of_lt_of_le h h2
  omega
theorem apart_len (l : List UInt8) {y : Nat} (hy : isW (y : Int) = true) (hm : l.length + 15 ≤ 1048576) : (alignB y l).length + y ≤ 1048576 := by
  have h8 : y ≤ 8 := by
    have := w_cases hy
    omega
  have := alignB_len l h8
  omega
theorem pushp_is (M : Bp) (fl : Int) (b : Bd) (t y n : Nat) (w : World) (o : Nat → Nat) (h : BM M fl w o b) (hs : b.s.length < 65536) :
    Calls Tryz.prog 173 #[.pointer (some ⟨M.β, 0, none⟩), .agg #[.int .i64 (t : Int), .int .i64 (y : Int), .int .u64 (n : Int)]] w (BTo M fl (b.push ⟨t, y, n⟩) w o) := pushp_spec M fl b ⟨t, y, n⟩ w o h hs
theorem low_is (n y q : Nat) (w : World) (hy : isW (y : Int) = true) (hq : n % 2 ^ (8 * y) = q) : Calls Tryz.prog 131 #[.int .u64 (n : Int), .int .i64 (y : Int)] w fun e w' => e = .returned (.int .u64 (q : Int)) ∧ w = w' := by
  subst hq
  exact low_spec n y w hy
set_option maxRecDepth 100000 in
set_option maxHeartbeats 2000000 in
theorem apart1_spec (M : Bp) (fl : Int) (b : Bd) (v : Bv) (t bx bv bt : Nat) (w : World) (o : Nat → Nat) (h : BM M fl w o b) (hc : ApC M v t bx bv bt w o) (hs : b.s.length < 65536) (hy : isW (v.w : Int) = true) (hm : b.b.length + 15 ≤ 1048576) :
    Calls Tryz.prog 254 #[.pointer (some ⟨bx, 0, none⟩), .pointer (some ⟨bv, 0, none⟩), .pointer (some ⟨bt, 0, none⟩)] w (BTo M fl (b.apart t v.w v.n) w o) := by
  have HM := Lib.hid h
  have HC := Lib.hid hc
  have HS := Lib.hid hs
  have HY := Lib.hid hy
  have HL := Lib.hid (show b.b.length + 7 ≤ 1048576 by omega)
  have HL2 := Lib.hid (show (alignB v.w b.b).length + v.w ≤ 1048576 from (apart_len b.b hy hm))
  obtain ⟨x0, v0, v1, v2, t0⟩ := hc.cells
  have b0 := h.head.cells.1
  clear h hc hs hy hm
  go_enter Tryz.func254, Tryz.ntmps254
  go_wp2_with fail
  go_region_held3 (fun w' => w'.cell? ⟨bx, 0, none⟩ = some (.pointer (some ⟨M.β, 0, none⟩)) ∧ w'.cell? ⟨bv, 0, none⟩ = some (.int .i64 (v.t : Int)) ∧ w'.cell? ⟨bv, 1, none⟩ = some (.int .i64 (v.w : Int)) ∧ w'.cell? ⟨bv, 2, none⟩ = some (.int .u64 (v.n : Int)) ∧ w'.cell? ⟨bt, 0, none⟩ = some (.int .i64 (t : Int)) ∧ w'.cell? ⟨M.β, 0, none⟩ = some (.pointer (some ⟨M.bb, 0, none⟩))) (first | with_reducible exact ⟨x0, v0, v1, v2, t0, b0⟩ | with_reducible exact ⟨kdrew x0, kdrew v0, kdrew v1, kdrew v2, kdrew t0, kdrew b0⟩ | with_reducible exact ⟨y0, y1, y2, y3, y4, y5⟩) (first | (go_at_call 130; (with_reducible refine (balign_spec M.bb v.w b.b _ o HM.out.drew.buf HY.out HL.out).mono ?_); rintro e W1 ⟨rfl, o1, hB1, hT1⟩; have hM1 := HM.out.drew.buf_ hT1 hB1; have hC1 := HC.out.drew.to_ hT1 (by omega); obtain ⟨y0, y1, y2, y3, y4⟩ := hC1.cells; have y5 := hM1.head.cells.1; have HM1 := Lib.hid hM1; have HC1 := Lib.hid hC1; have HT1 := Lib.hid hT1.from_drew; clear hB1 hT1 hM1 hC1))
  clear x0 v0 v1 v2 t0 b0
  obtain ⟨m, hmm⟩ : ∃ x, (alignB v.w b.b).length = x := ⟨_, rfl⟩
  have HMM := Lib.hid hmm
  have HAP := Lib.hid (show b.apart t v.w v.n = ({ b with b := alignB v.w b.b ++ leBytes v.w (v.n % 2 ^ (8 * v.w)) } : Bd).push ⟨t, v.w, m⟩ by unfold Bd.apart Bd.push; rw [← hmm])
  obtain ⟨q, hq⟩ : ∃ q, v.n % 2 ^ (8 * v.w) = q := ⟨_, rfl⟩
  have HFL := Lib.hid (show fitsU v.w q = true by rw [← hq]; exact fits_low v.n v.w)
  have HLT := Lib.hid (show (q : Int) < 18446744073709551616 by rw [← hq]; exact low_lt v.n HY.out)
  have HQ := Lib.hid hq
  clear hmm hq
  go_wp2_with (go_at_call 129; refine (blen_is m HM1.out.buf HMM.out).mono ?_; rintro e w' ⟨rfl, rfl⟩)
  go_region_held3 (fun w' => w'.cell? ⟨bx, 0, none⟩ = some (.pointer (some ⟨M.β, 0, none⟩)) ∧ w'.cell? ⟨bv, 0, none⟩ = some (.int .i64 (v.t : Int)) ∧ w'.cell? ⟨bv, 1, none⟩ = some (.int .i64 (v.w : Int)) ∧ w'.cell? ⟨bv, 2, none⟩ = some (.int .u64 (v.n : Int)) ∧ w'.cell? ⟨bt, 0, none⟩ = some (.int .i64 (t : Int)) ∧ w'.cell? ⟨M.β, 0, none⟩ = some (.pointer (some ⟨M.bb, 0, none⟩))) (first | with_reducible exact ⟨y0, y1, y2, y3, y4, y5⟩ | with_reducible exact ⟨kdrew y0, kdrew y1, kdrew y2, kdrew y3, kdrew y4, kdrew y5⟩ | with_reducible exact ⟨z0, z1, z2, z3, z4, z5⟩) (first | (go_at_call 131; (with_reducible refine (low_is v.n v.w q _ HY.out HQ.out).mono ?_); rintro e w' ⟨rfl, rfl⟩) | (go_at_call 133; (with_reducible refine (bnum_spec M.bb v.w q (alignB v.w b.b) _ o1 HM1.out.drew.buf HY.out HFL.out HLT.out HL2.out).mono ?_); rintro e W2 ⟨rfl, o2, hB2, hT2⟩; have hM2 := HM1.out.drew.buf_ hT2 hB2; have hC2 := HC1.out.drew.to_ hT2 (by omega); obtain ⟨z0, z1, z2, z3, z4⟩ := hC2.cells; have z5 := hM2.head.cells.1; have HM2 := Lib.hid hM2; have HC2 := Lib.hid hC2; have HT2 := Lib.hid hT2.from_drew; clear hB2 hT2 hM2 hC2))
  clear y0 y1 y2 y3 y4 y5
  have hwm : IntKind.u64.wrap (m : Int) = (m : Int) := u64_in _ (by have := HL2.out; have := HMM.out; omega)
  go_wp2_with fail
  go_region_held3 (fun w' => w'.cell? ⟨bx, 0, none⟩ = some (.pointer (some ⟨M.β, 0, none⟩)) ∧ w'.cell? ⟨bv, 0, none⟩ = some (.int .i64 (v.t : Int)) ∧ w'.cell? ⟨bv, 1, none⟩ = some (.int .i64 (v.w : Int)) ∧ w'.cell? ⟨bv, 2, none⟩ = some (.int .u64 (v.n : Int)) ∧ w'.cell? ⟨bt, 0, none⟩ = some (.int .i64 (t : Int)) ∧ w'.cell? ⟨M.β, 0, none⟩ = some (.pointer (some ⟨M.bb, 0, none⟩))) (first | with_reducible exact ⟨z0, z1, z2, z3, z4, z5⟩ | with_reducible exact ⟨kdrew z0, kdrew z1, kdrew z2, kdrew z3, kdrew z4, kdrew z5⟩ | with_reducible exact ⟨x0, x1, x2, x3, x4, x5⟩) (first | (go_at_call 173; (with_reducible refine (pushp_is M fl { b with b := alignB v.w b.b ++ leBytes v.w q } t v.w m _ o2 HM2.out.drew HS.out).mono ?_); rintro e W3 ⟨rfl, o3, hM3, hT3⟩; have hC3 := HC2.out.drew.to_ hT3 bld_0; obtain ⟨x0, x1, x2, x3, x4⟩ := hC3.cells; have x5 := hM3.head.cells.1; have HM3 := Lib.hid hM3; have HT3 := Lib.hid hT3.from_drew; clear hT3 hM3 hC3))
  go_end0
  rw [HAP.out, HQ.out]
  exact ⟨rfl, o3, HM3.out, ((HT1.out.trans HT2.out).mono fun _ h => bld_1 h).trans HT3.out⟩
theorem below_three (w : World) (x y z : Obj) : Below w.heap.size w (((w.alloc x).alloc y).alloc z) := (below_two w x y).alloc (by simp; omega) _
set_option maxHeartbeats 1000000 in
theorem apart_spec (M : Bp) (fl : Int) (b : Bd) (v : Bv) (t : Nat) (w : World) (o : Nat → Nat) (h : BM M fl w o b) (hs : b.s.length < 65536) (hy : isW (v.w : Int) = true) (hm : b.b.length + 15 ≤ 1048576) :
    Calls Tryz.prog 228 #[.pointer (some ⟨M.β, 0, none⟩), .int .i64 (t : Int), .agg #[.int .i64 (v.t : Int), .int .i64 (v.w : Int), .int .u64 (v.n : Int)]] w (BTo M fl (b.apart t v.w v.n) w o) := by
  have HS := Lib.hid hs
  have HY := Lib.hid hy
  have HL := Lib.hid hm
  have hB := below_three w (.cells #[.pointer (some ⟨M.β, 0, none⟩)] 122) (.cells #[.int .i64 (t : Int)] 3) (.cells #[.int .i64 (v.t : Int), .int .i64 (v.w : Int), .int .u64 (v.n : Int)] 185)
  have HB := Lib.hid hB
  have HM := Lib.hid (h.fresh hB 0)
  have HC := Lib.hid (show ApC M v t w.heap.size (w.heap.size + 1 + 1) (w.heap.size + 1) (((w.alloc (.cells #[.pointer (some ⟨M.β, 0, none⟩)] 122)).alloc (.cells #[.int .i64 (t : Int)] 3)).alloc (.cells #[.int .i64 (v.t : Int), .int .i64 (v.w : Int), .int .u64 (v.n : Int)] 185)) (newO o w.heap.size 0) from
    ⟨((Blk.new w 122 #[.pointer (some ⟨M.β, 0, none⟩)]).alloc _).alloc _, blk_new3 w _ _ _ _, (blk_new2 w _ 3 #[.int .i64 (t : Int)]).alloc _, newO_new (by omega), newO_new (by omega), newO_new (by omega)⟩)
  clear h hs hB hy hm
  go_enter Tryz.func228, Tryz.ntmps228
  go_wp2_with fail
  go_at_call 163
  refine (unless_spec M fl 254 _ _ (newO o w.heap.size 0) b.vals _ HM.out.head Tryz.call254 ((apart1_spec M fl b v t w.heap.size (w.heap.size + 1 + 1) (w.heap.size + 1) _ (newO o w.heap.size 0) HM.out HC.out HS.out HY.out HL.out).mono fun e w' h => ⟨h.1, h⟩)).mono ?_
  rintro e w' hR
  obtain rfl := hR.1
  have HR := Lib.hid (hR.from_fresh HB.out)
  clear hR
  go_wp2
  go_end0
  exact HR.out
set_option maxHeartbeats 400000 in
theorem ciint_spec (M : Bp) (fl : Int) (b : Bd) (n : Int) (w : World) (o : Nat → Nat) (h : BM M fl w o b) (hs : b.s.length < 65536) (hm : b.b.length + 15 ≤ 1048576) (hn : -9223372036854775808 ≤ n ∧ n ≤ 9223372036854775807) :
    Calls Tryz.prog 184 #[.pointer (some ⟨M.β, 0, none⟩), .int .i64 n] w (BTo M fl (b.apart 6 (bWidthI n) (bits n)) w o) := by
  have H := Lib.hid h
  have HS := Lib.hid hs
  have HL := Lib.hid hm
  have HY := Lib.hid (bWidthI_is n)
  have HN := Lib.hid hn
  clear h hs hm hn
  go_enter Tryz.func184, Tryz.ntmps184
  go_wp2_with fail
  go_at_call 158
  refine (num_spec n _ HN.out).mono ?_
  rintro e w1 ⟨rfl, hB⟩
  have HB := Lib.hid hB
  clear hB
  go_wp2_with fail
  go_at_call 228
  refine (apart_spec M fl b (numV n) 6 _ o (H.out.pure HB.out) HS.out HY.out HL.out).mono ?_
  intro e w2 hR
  obtain rfl := hR.1
  have HR := Lib.hid (hR.from_pure HB.out)
  clear hR
  go_wp2
  go_end0
  exact HR.out
set_option maxHeartbeats 400000 in
theorem ciuint_spec (M : Bp) (fl : Int) (b : Bd) (u : Nat) (w : World) (o : Nat → Nat) (h : BM M fl w o b) (hs : b.s.length < 65536) (hm : b.b.length + 15 ≤ 1048576) (hu : u < 18446744073709551616) :
    Calls Tryz.prog 185 #[.pointer (some ⟨M.β, 0, none⟩), .int .u64 (u : Int)] w (BTo M fl (b.apart 7 (bWidth u) u) w o) := by
  have H := Lib.hid h
  have HS := Lib.hid hs
  have HL := Lib.hid hm
  have HY := Lib.hid (bWidth_is u)
  have HN := Lib.hid hu
  clear h hs hm hu
  go_enter Tryz.func185, Tryz.ntmps185
  go_wp2_with fail
  go_at_call 160
  refine (uns_spec u _ HN.out).mono ?_
  rintro e w1 ⟨rfl, hB⟩
  have HB := Lib.hid hB
  clear hB
  go_wp2_with fail
  go_at_call 228
  refine (apart_spec M fl b (unsV u) 7 _ o (H.out.pure HB.out) HS.out HY.out HL.out).mono ?_
  intro e w2 hR
  obtain rfl := hR.1
  have HR := Lib.hid (hR.from_pure HB.out)
  clear hR
  go_wp2
  go_end0
  exact HR.out
end Go.Proofs.YtfoifdoaleaekaaGreat
