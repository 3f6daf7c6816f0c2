/-
  Package width: the least width of an integer.
  Package width: the least width of a signed integer; package minimal: whether a number fits.
  Package minimal: whether a number, a reference, a text fits a width.
  Package minimal: whether a text, an indirect number fits a width.
-/
import Derived.Test.YtejalfjeihlpeaaGreatQ27
import Derived.Shelf.Strconv.Itoa0
import Derived.Ground.NamesProg
import Derived.Laws.DeepNot64
namespace Go.Proofs.YtejalfjeihlpeaaGreat
open Go.Shelf Go.RowKit Go.Acc
def len64_ren : Go.Shelf.Ren := ⟨fun | 129 => 46 | n => n, fun | 3 => 3 | 4 => 4 | 5 => 5 | 9 => 9 | 46 => 84 | 53 => 38 | n => n, fun | n => n⟩
theorem len64_lay : Go.Proofs.Lays.n129 Tryz.prog len64_ren := {
  mixed := by kernel_rfl
  f129 := Tryz.func46.trans (congrArg some (by kernel_rfl))
  t3 := Tryz.underlying3
  a3 := Tryz.isAgg3
  z3 := Tryz.sizeOf3
  v3 := Tryz.zeroValue3
  t4 := Tryz.underlying4
  a4 := Tryz.isAgg4
  z4 := Tryz.sizeOf4
  v4 := Tryz.zeroValue4
  t5 := Tryz.underlying5
  a5 := Tryz.isAgg5
  z5 := Tryz.sizeOf5
  v5 := Tryz.zeroValue5
  t9 := Tryz.underlying9
  a9 := Tryz.isAgg9
  z9 := Tryz.sizeOf9
  v9 := Tryz.zeroValue9
  t46 := Tryz.underlying84
  a46 := Tryz.isAgg84
  z46 := Tryz.sizeOf84
  v46 := Tryz.zeroValue84
  t53 := Tryz.underlying38
  a53 := Tryz.isAgg38
  z53 := Tryz.sizeOf38
  v53 := Tryz.zeroValue38 }
theorem len64_spec (u : Nat) (w : World) (h : u < 18446744073709551616) : Calls Tryz.prog 46 #[.int .u64 u] w fun e w' => e = .returned (.int .i64 (Lib.bitLen u)) ∧ w = w' := by
  have h := Any.bits_Len64 len64_lay (u : Int) w (by omega) (by omega)
  change Calls Tryz.prog 46 _ _ _ at h
  exact h.mono fun _ _ ⟨he, hw⟩ => ⟨by rw [he, Int.toNat_natCast], hw.symm⟩
/-- The least width with at least m bits. -/
def wdN (m : Int) : Int := if m ≤ 8 then 1 else if m ≤ 16 then 2 else if m ≤ 32 then 4 else 8
set_option maxHeartbeats 400000 in
theorem least_is (m r : Int) (w : World) (h : wdN m = r) : Calls Tryz.prog 45 #[.int .i64 m] w fun e w' => e = .returned (.int .i64 r) ∧ w = w' := by
  unfold wdN at h
  by_cases h1 : m ≤ 8
  · rw [if_pos h1] at h
    subst h
    go_enter Tryz.func45, Tryz.ntmps45
    go_wp2
    refine wp_loop_rounds 5 ?_
    repeat (rw [rounds_succ]; go_wp2)
    all_goals
      go_ret
      exact ⟨rfl, rfl⟩
  · rw [if_neg h1] at h
    by_cases h2 : m ≤ 16
    · rw [if_pos h2] at h
      subst h
      go_enter Tryz.func45, Tryz.ntmps45
      go_wp2
      refine wp_loop_rounds 5 ?_
      repeat (rw [rounds_succ]; go_wp2)
      all_goals
        go_ret
        exact ⟨rfl, rfl⟩
    · rw [if_neg h2] at h
      by_cases h3 : m ≤ 32
      · rw [if_pos h3] at h
        subst h
        go_enter Tryz.func45, Tryz.ntmps45
        go_wp2
        refine wp_loop_rounds 5 ?_
        repeat (rw [rounds_succ]; go_wp2)
        all_goals
          go_ret
          exact ⟨rfl, rfl⟩
      · rw [if_neg h3] at h
        subst h
        by_cases h4 : m ≤ 64
        · go_enter Tryz.func45, Tryz.ntmps45
          go_wp2
          refine wp_loop_rounds 5 ?_
          repeat (rw [rounds_succ]; go_wp2)
          all_goals
            go_ret
            exact ⟨rfl, rfl⟩
        · go_enter Tryz.func45, Tryz.ntmps45
          go_wp2
          refine wp_loop_rounds 5 ?_
          repeat (rw [rounds_succ]; go_wp2)
          all_goals
            go_ret
            exact ⟨rfl, rfl⟩
def wdU (u : Nat) : Int := if u < 256 then 1 else if u < 65536 then 2 else if u < 4294967296 then 4 else 8
def wdI (n : Int) : Int := if -128 ≤ n ∧ n < 128 then 1 else if -32768 ≤ n ∧ n < 32768 then 2 else if -2147483648 ≤ n ∧ n < 2147483648 then 4 else 8
theorem bl_iff (u k : Nat) (hk : k ≤ 63) (hu : u < 18446744073709551616) : Lib.bitLen u ≤ k ↔ u < 2 ^ k := by
  constructor
  · intro h
    refine Decidable.byContradiction fun hn => ?_
    have h1 := Lib.bitLen_shift k u (by omega) hu
    have hp : 0 < 2 ^ k := Nat.two_pow_pos k
    have h2 : u / 2 ^ k ≠ 0 := by
      intro e
      have := (Nat.div_eq_zero_iff).1 e
      omega
    have h3 := Lib.bitLen_half (u / 2 ^ k) h2 (Nat.lt_of_le_of_lt (Nat.div_le_self _ _) hu)
    omega
  · intro h
    exact Lib.bitLen_le u k (by omega) h
theorem wdU_bits (u : Nat) (hu : u < 18446744073709551616) : wdN (Lib.bitLen u) = wdU u := by
  have h1 := bl_iff u 8 (by omega) hu
  have h2 := bl_iff u 16 (by omega) hu
  have h3 := bl_iff u 32 (by omega) hu
  simp only [Nat.reducePow] at h1 h2 h3
  unfold wdN wdU
  by_cases c1 : u < 256
  · rw [if_pos c1, if_pos (by have := h1.2 c1; omega)]
  · rw [if_neg c1, if_neg (by have := mt h1.1 c1; omega)]
    by_cases c2 : u < 65536
    · rw [if_pos c2, if_pos (by have := h2.2 c2; omega)]
    · rw [if_neg c2, if_neg (by have := mt h2.1 c2; omega)]
      by_cases c3 : u < 4294967296
      · rw [if_pos c3, if_pos (by have := h3.2 c3; omega)]
      · rw [if_neg c3, if_neg (by have := mt h3.1 c3; omega)]
set_option maxHeartbeats 400000 in
theorem wof_is (u : Nat) (r : Int) (w : World) (hu : u < 18446744073709551616) (h : wdU u = r) : Calls Tryz.prog 21 #[.int .u64 u] w fun e w' => e = .returned (.int .i64 r) ∧ w = w' := by
  obtain ⟨k, hk⟩ : ∃ k, Lib.bitLen u = k := ⟨_, rfl⟩
  have hw := wdU_bits u hu
  rw [hk, h] at hw
  have hl := len64_spec u w hu
  rw [hk] at hl
  have HW := Lib.hid hw
  have HL := Lib.hid hl
  clear hk hw hl h hu
  go_enter Tryz.func21, Tryz.ntmps21
  go_wp2_with fail
  go_at_call 46
  refine HL.out.mono ?_
  rintro e w' ⟨rfl, rfl⟩
  go_wp2_with fail
  go_at_call 45
  refine (least_is k r _ HW.out).mono ?_
  rintro e w' ⟨rfl, rfl⟩
  go_wp2
  go_ret
  exact ⟨rfl, rfl⟩
end Go.Proofs.YtejalfjeihlpeaaGreat

namespace Go.Proofs.YtejalfjeihlpeaaGreat
open Go.Shelf Go.RowKit Go.Acc
theorem wdI_pos (u : Nat) (hu : u < 9223372036854775808) : wdN (1 + Lib.bitLen u) = wdI (u : Int) ∧ wdI (-(u : Int) - 1) = wdI (u : Int) := by
  have h1 := bl_iff u 7 (by omega) (by omega)
  have h2 := bl_iff u 15 (by omega) (by omega)
  have h3 := bl_iff u 31 (by omega) (by omega)
  simp only [Nat.reducePow] at h1 h2 h3
  constructor
  · unfold wdN wdI
    by_cases c1 : u < 128
    · rw [if_pos (show (-128 : Int) ≤ u ∧ (u : Int) < 128 by omega), if_pos (by have := h1.2 c1; omega)]
    · rw [if_neg (show ¬ ((-128 : Int) ≤ u ∧ (u : Int) < 128) by omega), if_neg (by have := mt h1.1 c1; omega)]
      by_cases c2 : u < 32768
      · rw [if_pos (show (-32768 : Int) ≤ u ∧ (u : Int) < 32768 by omega), if_pos (by have := h2.2 c2; omega)]
      · rw [if_neg (show ¬ ((-32768 : Int) ≤ u ∧ (u : Int) < 32768) by omega), if_neg (by have := mt h2.1 c2; omega)]
        by_cases c3 : u < 2147483648
        · rw [if_pos (show (-2147483648 : Int) ≤ u ∧ (u : Int) < 2147483648 by omega), if_pos (by have := h3.2 c3; omega)]
        · rw [if_neg (show ¬ ((-2147483648 : Int) ≤ u ∧ (u : Int) < 2147483648) by omega), if_neg (by have := mt h3.1 c3; omega)]
  · unfold wdI
    (repeat' split) <;> omega
theorem xor_zero (a : Nat) (ha : a < 9223372036854775808) : bits .xor .i64 (a : Int) 0 = a := by
  show IntKind.i64.wrap ((BitVec.ofInt 64 (a : Int) ^^^ BitVec.ofInt 64 0).toNat : Int) = _
  have h1 : BitVec.ofInt 64 0 = 0#64 := by decide
  rw [h1, BitVec.xor_zero, ofInt_u64 a (by omega)]
  simp [IntKind.wrap, IntKind.bits, IntKind.signed]
  omega
theorem xor_ones (a : Nat) (ha : a < 9223372036854775808) : bits .xor .i64 (-(a : Int) - 1) (-1) = a := by
  show IntKind.i64.wrap ((BitVec.ofInt 64 (-(a : Int) - 1) ^^^ BitVec.ofInt 64 (-1)).toNat : Int) = _
  have h1 : BitVec.ofInt 64 (-1) = BitVec.allOnes 64 := by decide
  have h2 : (BitVec.ofInt 64 (-(a : Int) - 1)).toNat = 18446744073709551615 - a := by
    rw [BitVec.toNat_ofInt]
    omega
  rw [h1, BitVec.xor_allOnes, BitVec.toNat_not, h2]
  simp [IntKind.wrap, IntKind.bits, IntKind.signed]
  omega
set_option maxHeartbeats 400000 in
theorem wofi_is (n r : Int) (w : World) (h0 : -9223372036854775808 ≤ n ∧ n ≤ 9223372036854775807) (h : wdI n = r) : Calls Tryz.prog 23 #[.int .i64 n] w fun e w' => e = .returned (.int .i64 r) ∧ w = w' := by
  obtain ⟨u, hu, hn, hx⟩ : ∃ u : Nat, u < 9223372036854775808 ∧ wdI (u : Int) = r ∧ bits .xor .i64 n (n / 9223372036854775808) = u := by
    by_cases hn : 0 ≤ n
    · obtain ⟨u, rfl⟩ := Int.eq_ofNat_of_zero_le hn
      refine ⟨u, by omega, h, ?_⟩
      rw [show (u : Int) / 9223372036854775808 = 0 by omega]
      exact xor_zero u (by omega)
    · obtain ⟨u, rfl⟩ : ∃ u : Nat, n = -(u : Int) - 1 := ⟨(-n - 1).toNat, by omega⟩
      refine ⟨u, by omega, by rw [← (wdI_pos u (by omega)).2]; exact h, ?_⟩
      rw [show (-(u : Int) - 1) / 9223372036854775808 = -1 by omega]
      exact xor_ones u (by omega)
  obtain ⟨k, hk⟩ : ∃ k, Lib.bitLen u = k := ⟨_, rfl⟩
  have hw := (wdI_pos u hu).1
  rw [hk, hn] at hw
  have hl := len64_spec u w (by omega)
  rw [hk] at hl
  have hk2 : k ≤ 64 := by rw [← hk]; exact Lib.bitLen_le u 64 (by omega) (by omega)
  have hwr : IntKind.u64.wrap (u : Int) = u := by rw [IntKind.wrap_u64]; omega
  have HW := Lib.hid hw
  have HL := Lib.hid hl
  have HX := Lib.hid hx
  clear hk hw hl h hn hx
  go_enter Tryz.func23, Tryz.ntmps23
  go_wp2_with fail
  go_at_call 46
  rw [HX.out, hwr]
  refine HL.out.mono ?_
  rintro e w' ⟨rfl, rfl⟩
  go_wp2_with fail
  go_at_call 45
  refine (least_is (1 + (k : Int)) r _ HW.out).mono ?_
  rintro e w' ⟨rfl, rfl⟩
  go_wp2
  go_ret
  exact ⟨rfl, rfl⟩
end Go.Proofs.YtejalfjeihlpeaaGreat

namespace Go.Proofs.YtejalfjeihlpeaaGreat
open Go.RowKit Go.Acc
def mnS (l : List UInt8) (a x v : Int) : Bool := decide (wdI (loadI l a x) ≤ v)
def mnP (l : List UInt8) (a x v : Int) : Bool := decide (wdU (loadU l a x) ≤ v)
/-- Where the bytes and the struct lie. -/
structure MnE where
  bw : Nat
  A : Option Addr
  n : Nat
  c : Nat
  l : List UInt8
structure MnB (E : MnE) (w : World) : Prop where
  hc : E.n ≤ E.c
  hn : E.n ≤ 4294967296
  b : IsB w E.A E.n E.l
  c0 : w.cell? ⟨E.bw, 0, none⟩ = some (.slice E.A E.n E.c)
theorem MnB.pure {E : MnE} {w w' : World} (h : MnB E w) (hb : Below w.heap.size w w') : MnB E w' := ⟨h.hc, h.hn, h.b.pure hb, cell_pure hb h.c0⟩
theorem MnB.drew {E : MnE} {w : World} (h : MnB E w) : MnB E w.drew := h.pure ((Below.refl _ _).drew)
theorem MnB.alloc {E : MnE} {w : World} (h : MnB E w) (o : Obj) : MnB E (w.alloc o) := h.pure ((Below.refl _ _).alloc (Nat.le_refl _) o)
set_option maxHeartbeats 400000 in
theorem signed_is (E : MnE) (a x v : Int) (r : Bool) (w : World) (h : MnB E w) (hr : mnS E.l a x v = r) : Calls Tryz.prog 70 #[.pointer (some ⟨E.bw, 0, none⟩), .int .i64 a, .int .i64 x, .int .i64 v] w fun e w' => e = .returned (.bool r) ∧ Below w.heap.size w w' := by
  unfold mnS at hr
  have hl := loadi_spec E.A E.n E.c a x E.l w h.b h.hc (by have := h.hn; omega)
  obtain ⟨n, hn⟩ : ∃ n, loadI E.l a x = n := ⟨_, rfl⟩
  have hb := loadI_64 E.l a x
  rw [hn] at hb hr hl
  obtain ⟨k, hk⟩ : ∃ k, wdI n = k := ⟨_, rfl⟩
  rw [hk] at hr
  have HW := Lib.hid (fun W => wofi_is n k W hb hk)
  have HL := Lib.hid hl
  have c0 := h.c0
  clear h hl hn hb hk
  go_enter Tryz.func70, Tryz.ntmps70
  go_wp2_with fail
  go_at_call 105
  refine HL.out.mono ?_
  rintro e w' ⟨rfl, hb⟩
  have HB := Lib.hid hb
  clear hb HL c0
  go_wp2_with fail
  go_at_call 23
  refine (HW.out _).mono ?_
  rintro e w'' ⟨rfl, rfl⟩
  go_wp2
  go_ret
  exact ⟨rfl, HB.out⟩
set_option maxHeartbeats 400000 in
theorem plain_is (E : MnE) (a x v : Int) (r : Bool) (w : World) (h : MnB E w) (hr : mnP E.l a x v = r) : Calls Tryz.prog 71 #[.pointer (some ⟨E.bw, 0, none⟩), .int .i64 a, .int .i64 x, .int .i64 v] w fun e w' => e = .returned (.bool r) ∧ Below w.heap.size w w' := by
  unfold mnP at hr
  have hl := load_spec E.A E.n E.c a x E.l w h.b h.hc (by have := h.hn; omega)
  obtain ⟨n, hn⟩ : ∃ n, loadU E.l a x = n := ⟨_, rfl⟩
  have hb := loadU_64 E.l a x
  rw [hn] at hb hr hl
  obtain ⟨k, hk⟩ : ∃ k, wdU n = k := ⟨_, rfl⟩
  rw [hk] at hr
  have HW := Lib.hid (fun W => wof_is n k W (by omega) hk)
  have HL := Lib.hid hl
  have c0 := h.c0
  clear h hl hn hb hk
  go_enter Tryz.func71, Tryz.ntmps71
  go_wp2_with fail
  go_at_call 87
  refine HL.out.mono ?_
  rintro e w' ⟨rfl, hb⟩
  have HB := Lib.hid hb
  clear hb HL c0
  go_wp2_with fail
  go_at_call 21
  refine (HW.out _).mono ?_
  rintro e w'' ⟨rfl, rfl⟩
  go_wp2
  go_ret
  exact ⟨rfl, HB.out⟩
/-- A reference would fit the width v at a position. -/
def mnStands (l : List UInt8) (p q t w pos v : Int) : Bool :=
  if t = 1 then mnS l p q v else if t = 2 then mnP l p q v else if inlineT t = true then true
  else decide (tgt l p q t w ≤ pos) && decide (wdU (pos - tgt l p q t w).toNat ≤ v)
theorem below_drew_ {B : Nat} {a w : World} (h : Below B a w) : Below B a w.drew := h.drew
theorem target_n (A : Option Addr) (n c : Nat) (p q t v a : Int) (l : List UInt8) (w : World) (hl : IsB w A n l) (hc : n ≤ c) (hn : n ≤ 1099511627776) (h1 : tgt l p q t v = a) :
    Calls Tryz.prog 53 #[.slice A n c, .agg #[.int .i64 p, .int .i64 q, .int .i64 t, .int .i64 v]] w fun e w' => e = .returned (.tuple #[.int .i64 a, .int .i64 (tgtE l p q t v)]) ∧ Below w.heap.size w w' := by
  subst h1
  exact target_spec A n c p q t v l w hl hc (by omega)
theorem tgt_bd (l : List UInt8) (p q t v : Int) : 0 ≤ tgt l p q t v ∧ tgt l p q t v ≤ l.length := by
  by_cases g : tgtE l p q t v = 0
  · exact tgt_rng g
  · unfold tgt; rw [if_neg g]; omega
set_option maxRecDepth 100000 in
set_option maxHeartbeats 1000000 in
theorem stands_is (E : MnE) (p q t v pos f : Int) (r : Bool) (w : World) (h : MnB E w) (hp : pos ≤ 1099511627776) (hr : mnStands E.l p q t v pos f = r) :
    Calls Tryz.prog 37 #[.pointer (some ⟨E.bw, 0, none⟩), .agg #[.int .i64 p, .int .i64 q, .int .i64 t, .int .i64 v], .int .i64 pos, .int .i64 f] w fun e w' => e = .returned (.bool r) ∧ Below w.heap.size w w' := by
  unfold mnStands at hr
  by_cases h1 : t = 1
  · subst h1
    rw [if_pos rfl] at hr
    have HM := Lib.hid (h.alloc (.cells #[.int .i64 p, .int .i64 q, .int .i64 1, .int .i64 v] 48))
    have HX := Lib.hid (Blk.new w 48 #[.int .i64 p, .int .i64 q, .int .i64 1, .int .i64 v])
    have HB := Lib.hid ((Below.refl w.heap.size w).alloc (Nat.le_refl _) (.cells #[.int .i64 p, .int .i64 q, .int .i64 1, .int .i64 v] 48))
    have hnn := h.hn
    have hcc := h.hc
    clear h
    have c0 := HM.out.c0; have x0 := cell0 HX.out; have x1 := cell1 HX.out; have x2 := cell2 HX.out; have x3 := cell3 HX.out
    have HR := Lib.hid hr
    clear hr
    go_enter Tryz.func37, Tryz.ntmps37
    go_wp2_with fail
    go_at_call 70
    refine (signed_is E p q f r _ HM.out HR.out).mono ?_
    rintro e w' ⟨rfl, hb⟩
    replace HB := Lib.hid (pure_below HB.out hb)
    clear hb
    go_wp2
    go_ret
    exact ⟨rfl, HB.out⟩
  rw [if_neg h1] at hr
  have e1 : (t == 1) = false := beq_eq_false_iff_ne.mpr h1
  by_cases h2 : t = 2
  · subst h2
    rw [if_pos rfl] at hr
    have HM := Lib.hid (h.alloc (.cells #[.int .i64 p, .int .i64 q, .int .i64 2, .int .i64 v] 48))
    have HX := Lib.hid (Blk.new w 48 #[.int .i64 p, .int .i64 q, .int .i64 2, .int .i64 v])
    have HB := Lib.hid ((Below.refl w.heap.size w).alloc (Nat.le_refl _) (.cells #[.int .i64 p, .int .i64 q, .int .i64 2, .int .i64 v] 48))
    have hnn := h.hn
    have hcc := h.hc
    clear h
    have c0 := HM.out.c0; have x0 := cell0 HX.out; have x1 := cell1 HX.out; have x2 := cell2 HX.out; have x3 := cell3 HX.out
    have HR := Lib.hid hr
    clear hr h1 e1
    go_enter Tryz.func37, Tryz.ntmps37
    go_wp2_with fail
    go_at_call 71
    refine (plain_is E p q f r _ HM.out HR.out).mono ?_
    rintro e w' ⟨rfl, hb⟩
    replace HB := Lib.hid (pure_below HB.out hb)
    clear hb
    go_wp2
    go_ret
    exact ⟨rfl, HB.out⟩
  rw [if_neg h2] at hr
  have e2 : (t == 2) = false := beq_eq_false_iff_ne.mpr h2
  have HM := Lib.hid (h.alloc (.cells #[.int .i64 p, .int .i64 q, .int .i64 t, .int .i64 v] 48))
  have HX := Lib.hid (Blk.new w 48 #[.int .i64 p, .int .i64 q, .int .i64 t, .int .i64 v])
  have HB := Lib.hid ((Below.refl w.heap.size w).alloc (Nat.le_refl _) (.cells #[.int .i64 p, .int .i64 q, .int .i64 t, .int .i64 v] 48))
  have hnn := h.hn
  have hcc := h.hc
  clear h
  have c0 := HM.out.c0; have x0 := cell0 HX.out; have x1 := cell1 HX.out; have x2 := cell2 HX.out; have x3 := cell3 HX.out
  clear h1 h2
  obtain ⟨i, hi⟩ : ∃ i, inlineT t = i := ⟨_, rfl⟩
  rw [hi] at hr
  have HI := Lib.hid hi
  clear hi
  go_enter Tryz.func37, Tryz.ntmps37
  go_wp2_with fail
  go_at_call 52
  refine (inline_is t i _ HI.out).mono ?_
  rintro e w1 ⟨rfl, hb⟩
  replace HB := Lib.hid (pure_below HB.out hb); replace HM := Lib.hid (HM.out.pure hb); replace HX := Lib.hid (HX.out.pure hb); clear c0 x0 x1 x2 x3; clear hb; have c0 := HM.out.c0; have x0 := cell0 HX.out; have x1 := cell1 HX.out; have x2 := cell2 HX.out; have x3 := cell3 HX.out
  cases i with
  | true =>
    rw [if_pos rfl] at hr
    subst hr
    go_wp2
    go_ret
    exact ⟨rfl, HB.out⟩
  | false =>
    rw [if_neg (by decide)] at hr
    have hbd := tgt_bd E.l p q t v
    have hlen := HM.out.b.1
    obtain ⟨a, ha⟩ : ∃ a, tgt E.l p q t v = a := ⟨_, rfl⟩
    rw [ha] at hr hbd
    have HA := Lib.hid ha
    obtain ⟨ha0, ha1⟩ := hbd
    clear ha
    go_wp2_with fail
    go_region_held3 (fun w' => w'.cell? ⟨E.bw, 0, none⟩ = some (.slice E.A E.n E.c) ∧ (w'.cell? ⟨w.heap.size, 0, none⟩ = some (.int .i64 p) ∧ w'.cell? ⟨w.heap.size, 1, none⟩ = some (.int .i64 q) ∧ w'.cell? ⟨w.heap.size, 2, none⟩ = some (.int .i64 t) ∧ w'.cell? ⟨w.heap.size, 3, none⟩ = some (.int .i64 v))) (first | with_reducible exact ⟨c0, x0, x1, x2, x3⟩ | with_reducible exact ⟨ldrew_ c0, ldrew_ x0, ldrew_ x1, ldrew_ x2, ldrew_ x3⟩) (first | (go_at_call 53; (with_reducible refine (target_n E.A E.n E.c p q t v a E.l _ HM.out.drew.b hcc (by omega) HA.out).mono ?_); rintro e w5 ⟨rfl, hb⟩; replace HB := Lib.hid (pure_below (below_drew_ HB.out) hb); replace HM := Lib.hid (HM.out.drew.pure hb); replace HX := Lib.hid (HX.out.drew.pure hb); clear c0 x0 x1 x2 x3; clear hb; have c0 := HM.out.c0; have x0 := cell0 HX.out; have x1 := cell1 HX.out; have x2 := cell2 HX.out; have x3 := cell3 HX.out))
    clear c0 x0 x1 x2 x3
    clear HM HX
    by_cases hap : a ≤ pos
    · obtain ⟨u, hu⟩ : ∃ u : Nat, pos - a = u := ⟨(pos - a).toNat, by omega⟩
      rw [decide_eq_true hap, Bool.true_and, hu, Int.toNat_natCast] at hr
      have hw1 : IntKind.i64.wrap (pos - a) = u := by rw [hu]; exact IntWalk.i64_in _ (by omega)
      have hw2 : IntKind.u64.wrap (u : Int) = u := by rw [IntKind.wrap_u64]; omega
      obtain ⟨k, hk⟩ : ∃ k, wdU u = k := ⟨_, rfl⟩
      rw [hk] at hr
      have HW := Lib.hid (fun W => wof_is u k W (by omega) hk)
      have HU := Lib.hid hu
      clear hk hu
      go_wp2_with fail
      go_at_call 21
      refine (HW.out _).mono ?_
      rintro e w6 ⟨rfl, rfl⟩
      go_wp2
      go_ret
      exact ⟨rfl, HB.out⟩
    · rw [decide_eq_false hap, Bool.false_and] at hr
      subst hr
      have hd : decide (a ≤ pos) = false := decide_eq_false hap
      go_wp2
      go_ret
      exact ⟨rfl, HB.out⟩
end Go.Proofs.YtejalfjeihlpeaaGreat

namespace Go.Proofs.YtejalfjeihlpeaaGreat
open Go.RowKit Go.Acc
theorem splace_is (A : Option Addr) (n c : Nat) (p q t v a x : Int) (l : List UInt8) (w : World) (hl : IsB w A n l) (hc : n ≤ c) (hn : n ≤ 1099511627776) (h1 : plcA l p q t v = a) (h2 : plcW l p q t v = x) :
    Calls Tryz.prog 89 #[.slice A n c, .agg #[.int .i64 p, .int .i64 q, .int .i64 t, .int .i64 v]] w fun e w' => e = .returned (.tuple #[.int .i64 a, .int .i64 x, .int .i64 (plcE l p q t v)]) ∧ Below w.heap.size w w' := by
  subst h1 h2
  exact splace_spec A n c p q t v l w hl hc (by omega)
def mnText (l : List UInt8) (p q t v f : Int) : Bool := decide (wdU (fndL l p q t v [4, 5, 25]).length ≤ f)
def mnInt (l : List UInt8) (p q t v f : Int) : Bool := mnS l (plcA l p q t v) (plcW l p q t v) f
def mnUint (l : List UInt8) (p q t v f : Int) : Bool := mnP l (plcA l p q t v) (plcW l p q t v) f
theorem fndL_le (l : List UInt8) (p q t v : Int) : (fndL l p q t v [4, 5, 25]).length ≤ l.length := by
  by_cases h : fndE l p q t v [4, 5, 25] = 0
  · have h2 := (fnd_bounds h).2.1
    have h1 := (fnd_bounds h).1
    omega
  · unfold fndL
    rw [if_neg h]
    simp
set_option maxRecDepth 100000 in
set_option maxHeartbeats 1000000 in
theorem mtext_is (E : MnE) (p q t v f : Int) (r : Bool) (w : World) (h : MnB E w) (hr : mnText E.l p q t v f = r) :
    Calls Tryz.prog 106 #[.pointer (some ⟨E.bw, 0, none⟩), .agg #[.int .i64 p, .int .i64 q, .int .i64 t, .int .i64 v], .int .i64 f] w fun e w' => e = .returned (.bool r) ∧ Below w.heap.size w w' := by
  unfold mnText at hr
  have hle := fndL_le E.l p q t v
  obtain ⟨m, hm⟩ : ∃ m, (fndL E.l p q t v [4, 5, 25]).length = m := ⟨_, rfl⟩
  rw [hm] at hr hle
  have HMM := Lib.hid (show ((fndL E.l p q t v [4, 5, 25]).length : Int) = (m : Int) by rw [hm])
  clear hm
  have HM := Lib.hid (h.alloc (.cells #[.int .i64 p, .int .i64 q, .int .i64 t, .int .i64 v] 48))
  have HX := Lib.hid (Blk.new w 48 #[.int .i64 p, .int .i64 q, .int .i64 t, .int .i64 v])
  have HB := Lib.hid ((Below.refl w.heap.size w).alloc (Nat.le_refl _) (.cells #[.int .i64 p, .int .i64 q, .int .i64 t, .int .i64 v] 48))
  have hnn := h.hn
  have hcc := h.hc
  have hlen := h.b.1
  clear h
  have c0 := HM.out.c0; have x0 := cell0 HX.out; have x1 := cell1 HX.out; have x2 := cell2 HX.out; have x3 := cell3 HX.out
  obtain ⟨k, hk⟩ : ∃ k, wdU m = k := ⟨_, rfl⟩
  rw [hk] at hr
  have HW := Lib.hid (fun W => wof_is m k W (by omega) hk)
  have hw2 : IntKind.u64.wrap (m : Int) = m := by rw [IntKind.wrap_u64]; omega
  clear hk hle
  go_enter Tryz.func106, Tryz.ntmps106
  go_wp2_with fail
  go_region_held3 (fun w' => w'.cell? ⟨E.bw, 0, none⟩ = some (.slice E.A E.n E.c) ∧ (w'.cell? ⟨w.heap.size, 0, none⟩ = some (.int .i64 p) ∧ w'.cell? ⟨w.heap.size, 1, none⟩ = some (.int .i64 q) ∧ w'.cell? ⟨w.heap.size, 2, none⟩ = some (.int .i64 t) ∧ w'.cell? ⟨w.heap.size, 3, none⟩ = some (.int .i64 v))) (first | with_reducible exact ⟨c0, x0, x1, x2, x3⟩ | with_reducible exact ⟨ldrew_ c0, ldrew_ x0, ldrew_ x1, ldrew_ x2, ldrew_ x3⟩) (first | (go_at_call 88; (with_reducible refine (tplace_is E.A E.n E.c p q t v _ m _ E.l _ HM.out.drew.b hcc (by omega) rfl HMM.out rfl).mono ?_); rintro e w5 ⟨rfl, hb⟩; replace HB := Lib.hid (pure_below (below_drew_ HB.out) hb); replace HM := Lib.hid (HM.out.drew.pure hb); replace HX := Lib.hid (HX.out.drew.pure hb); clear c0 x0 x1 x2 x3; clear hb; have c0 := HM.out.c0; have x0 := cell0 HX.out; have x1 := cell1 HX.out; have x2 := cell2 HX.out; have x3 := cell3 HX.out))
  clear c0 x0 x1 x2 x3
  clear HM HX
  go_wp2_with fail
  go_at_call 21
  refine (HW.out _).mono ?_
  rintro e w6 ⟨rfl, rfl⟩
  go_wp2
  go_ret
  exact ⟨rfl, HB.out⟩
set_option maxRecDepth 100000 in
set_option maxHeartbeats 1000000 in
theorem mint_is (E : MnE) (p q t v f : Int) (r : Bool) (w : World) (h : MnB E w) (hr : mnInt E.l p q t v f = r) :
    Calls Tryz.prog 107 #[.pointer (some ⟨E.bw, 0, none⟩), .agg #[.int .i64 p, .int .i64 q, .int .i64 t, .int .i64 v], .int .i64 f] w fun e w' => e = .returned (.bool r) ∧ Below w.heap.size w w' := by
  unfold mnInt at hr
  obtain ⟨a, ha⟩ : ∃ a, plcA E.l p q t v = a := ⟨_, rfl⟩
  obtain ⟨x, hx⟩ : ∃ a, plcW E.l p q t v = a := ⟨_, rfl⟩
  rw [ha, hx] at hr
  have HA := Lib.hid ha
  have HXX := Lib.hid hx
  have HR := Lib.hid hr
  clear ha hx hr
  have HM := Lib.hid (h.alloc (.cells #[.int .i64 p, .int .i64 q, .int .i64 t, .int .i64 v] 48))
  have HX := Lib.hid (Blk.new w 48 #[.int .i64 p, .int .i64 q, .int .i64 t, .int .i64 v])
  have HB := Lib.hid ((Below.refl w.heap.size w).alloc (Nat.le_refl _) (.cells #[.int .i64 p, .int .i64 q, .int .i64 t, .int .i64 v] 48))
  have hnn := h.hn
  have hcc := h.hc
  have hlen := h.b.1
  clear h
  have c0 := HM.out.c0; have x0 := cell0 HX.out; have x1 := cell1 HX.out; have x2 := cell2 HX.out; have x3 := cell3 HX.out
  go_enter Tryz.func107, Tryz.ntmps107
  go_wp2_with fail
  go_region_held3 (fun w' => w'.cell? ⟨E.bw, 0, none⟩ = some (.slice E.A E.n E.c) ∧ (w'.cell? ⟨w.heap.size, 0, none⟩ = some (.int .i64 p) ∧ w'.cell? ⟨w.heap.size, 1, none⟩ = some (.int .i64 q) ∧ w'.cell? ⟨w.heap.size, 2, none⟩ = some (.int .i64 t) ∧ w'.cell? ⟨w.heap.size, 3, none⟩ = some (.int .i64 v))) (first | with_reducible exact ⟨c0, x0, x1, x2, x3⟩ | with_reducible exact ⟨ldrew_ c0, ldrew_ x0, ldrew_ x1, ldrew_ x2, ldrew_ x3⟩) (first | (go_at_call 89; (with_reducible refine (splace_is E.A E.n E.c p q t v a x E.l _ HM.out.drew.b hcc (by omega) HA.out HXX.out).mono ?_); rintro e w5 ⟨rfl, hb⟩; replace HB := Lib.hid (pure_below (below_drew_ HB.out) hb); replace HM := Lib.hid (HM.out.drew.pure hb); replace HX := Lib.hid (HX.out.drew.pure hb); clear c0 x0 x1 x2 x3; clear hb; have c0 := HM.out.c0; have x0 := cell0 HX.out; have x1 := cell1 HX.out; have x2 := cell2 HX.out; have x3 := cell3 HX.out))
  go_wp2_with fail
  go_at_call 70
  refine (signed_is E a x f r _ HM.out HR.out).mono ?_
  rintro e w6 ⟨rfl, hb⟩
  replace HB := Lib.hid (pure_below HB.out hb)
  clear hb
  go_wp2
  go_ret
  exact ⟨rfl, HB.out⟩
set_option maxRecDepth 100000 in
set_option maxHeartbeats 1000000 in
theorem muint_is (E : MnE) (p q t v f : Int) (r : Bool) (w : World) (h : MnB E w) (hr : mnUint E.l p q t v f = r) :
    Calls Tryz.prog 108 #[.pointer (some ⟨E.bw, 0, none⟩), .agg #[.int .i64 p, .int .i64 q, .int .i64 t, .int .i64 v], .int .i64 f] w fun e w' => e = .returned (.bool r) ∧ Below w.heap.size w w' := by
  unfold mnUint at hr
  obtain ⟨a, ha⟩ : ∃ a, plcA E.l p q t v = a := ⟨_, rfl⟩
  obtain ⟨x, hx⟩ : ∃ a, plcW E.l p q t v = a := ⟨_, rfl⟩
  rw [ha, hx] at hr
  have HA := Lib.hid ha
  have HXX := Lib.hid hx
  have HR := Lib.hid hr
  clear ha hx hr
  have HM := Lib.hid (h.alloc (.cells #[.int .i64 p, .int .i64 q, .int .i64 t, .int .i64 v] 48))
  have HX := Lib.hid (Blk.new w 48 #[.int .i64 p, .int .i64 q, .int .i64 t, .int .i64 v])
  have HB := Lib.hid ((Below.refl w.heap.size w).alloc (Nat.le_refl _) (.cells #[.int .i64 p, .int .i64 q, .int .i64 t, .int .i64 v] 48))
  have hnn := h.hn
  have hcc := h.hc
  have hlen := h.b.1
  clear h
  have c0 := HM.out.c0; have x0 := cell0 HX.out; have x1 := cell1 HX.out; have x2 := cell2 HX.out; have x3 := cell3 HX.out
  go_enter Tryz.func108, Tryz.ntmps108
  go_wp2_with fail
  go_region_held3 (fun w' => w'.cell? ⟨E.bw, 0, none⟩ = some (.slice E.A E.n E.c) ∧ (w'.cell? ⟨w.heap.size, 0, none⟩ = some (.int .i64 p) ∧ w'.cell? ⟨w.heap.size, 1, none⟩ = some (.int .i64 q) ∧ w'.cell? ⟨w.heap.size, 2, none⟩ = some (.int .i64 t) ∧ w'.cell? ⟨w.heap.size, 3, none⟩ = some (.int .i64 v))) (first | with_reducible exact ⟨c0, x0, x1, x2, x3⟩ | with_reducible exact ⟨ldrew_ c0, ldrew_ x0, ldrew_ x1, ldrew_ x2, ldrew_ x3⟩) (first | (go_at_call 89; (with_reducible refine (splace_is E.A E.n E.c p q t v a x E.l _ HM.out.drew.b hcc (by omega) HA.out HXX.out).mono ?_); rintro e w5 ⟨rfl, hb⟩; replace HB := Lib.hid (pure_below (below_drew_ HB.out) hb); replace HM := Lib.hid (HM.out.drew.pure hb); replace HX := Lib.hid (HX.out.drew.pure hb); clear c0 x0 x1 x2 x3; clear hb; have c0 := HM.out.c0; have x0 := cell0 HX.out; have x1 := cell1 HX.out; have x2 := cell2 HX.out; have x3 := cell3 HX.out))
  go_wp2_with fail
  go_at_call 71
  refine (plain_is E a x f r _ HM.out HR.out).mono ?_
  rintro e w6 ⟨rfl, hb⟩
  replace HB := Lib.hid (pure_below HB.out hb)
  clear hb
  go_wp2
  go_ret
  exact ⟨rfl, HB.out⟩
end Go.Proofs.YtejalfjeihlpeaaGreat
