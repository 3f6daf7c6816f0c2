/-
  Package accordionref30: whether a number, a reference, a text fits a width.
-/
import Derived.Test.YtejalfjeihlpeaaGreatQ39
import Derived.Test.YtejalfjeihlpeaaGreatQRvG
namespace Go.Proofs.YtejalfjeihlpeaaGreat
open Go.RowKit Go.Acc
theorem fitsU_wd {f : Int} {u : Nat} (hf : isW f = true) (hu : u < 18446744073709551616) : fitsU f.toNat u = decide (wdU u ≤ f) := by
  unfold fitsU wdU
  rcases isW_iff.1 hf with rfl | rfl | rfl | rfl
  · simp only [Int.reduceToNat, Nat.reduceMul, Nat.reducePow]
    refine decide_eq_decide.2 ?_
    (repeat' split) <;> omega
  · simp only [Int.reduceToNat, Nat.reduceMul, Nat.reducePow]
    refine decide_eq_decide.2 ?_
    (repeat' split) <;> omega
  · simp only [Int.reduceToNat, Nat.reduceMul, Nat.reducePow]
    refine decide_eq_decide.2 ?_
    (repeat' split) <;> omega
  · simp only [Int.reduceToNat, Nat.reduceMul, Nat.reducePow]
    refine decide_eq_decide.2 ?_
    (repeat' split) <;> omega
theorem fitsI_wd {f n : Int} (hf : isW f = true) (hn : -9223372036854775808 ≤ n ∧ n ≤ 9223372036854775807) : fitsI f.toNat n = decide (wdI n ≤ f) := by
  unfold fitsI wdI
  rcases isW_iff.1 hf with rfl | rfl | rfl | rfl
  · simp only [Int.reduceToNat, Nat.reduceMul, Nat.reduceSub, Int.reducePow, Int.reduceNeg]
    refine decide_eq_decide.2 ?_
    (repeat' split) <;> omega
  · simp only [Int.reduceToNat, Nat.reduceMul, Nat.reduceSub, Int.reducePow, Int.reduceNeg]
    refine decide_eq_decide.2 ?_
    (repeat' split) <;> omega
  · simp only [Int.reduceToNat, Nat.reduceMul, Nat.reduceSub, Int.reducePow, Int.reduceNeg]
    refine decide_eq_decide.2 ?_
    (repeat' split) <;> omega
  · simp only [Int.reduceToNat, Nat.reduceMul, Nat.reduceSub, Int.reducePow, Int.reduceNeg]
    refine decide_eq_decide.2 ?_
    (repeat' split) <;> omega
theorem rfits_at (f : Int) (u : Nat) (r : Bool) (w : World) (hf : isW f = true) (hu : (u : Int) < 18446744073709551616) (hr : decide (wdU u ≤ f) = r) : Calls Tryz.prog 76 #[.int .i64 f, .int .u64 u] w fun e w' => e = .returned (.bool r) ∧ Below w.heap.size w w' := by
  have hW := isW_iff.1 hf
  have e := fitsU_wd hf (u := u) (by omega)
  obtain ⟨F, rfl⟩ := Int.eq_ofNat_of_zero_le (a := f) (by omega)
  rw [Int.toNat_natCast] at e
  rw [← hr, ← e]
  exact (rfits_spec F u w hf hu).mono fun e w' ⟨h1, h2⟩ => ⟨h1, h2 ▸ Below.refl _ _⟩
theorem rfitsi_at (f n : Int) (r : Bool) (w : World) (hf : isW f = true) (hn : -9223372036854775808 ≤ n ∧ n ≤ 9223372036854775807) (hr : decide (wdI n ≤ f) = r) : Calls Tryz.prog 112 #[.int .i64 f, .int .i64 n] w fun e w' => e = .returned (.bool r) ∧ Below w.heap.size w w' := by
  have hW := isW_iff.1 hf
  have e := fitsI_wd hf hn
  obtain ⟨F, rfl⟩ := Int.eq_ofNat_of_zero_le (a := f) (by omega)
  rw [Int.toNat_natCast] at e
  rw [← hr, ← e]
  exact (rfitsi_spec F n w hf).mono fun e w' ⟨h1, h2⟩ => ⟨h1, h2 ▸ Below.refl _ _⟩
theorem rloadi_at (A : Option Addr) (n c : Nat) (a x u : Int) (l : List UInt8) (w : World) (hl : IsB w A n l) (hn : n ≤ 9223372036854775807) (hu : loadI l a x = u) :
    Calls Tryz.prog 111 #[.slice A n c, .int .i64 a, .int .i64 x] w fun e w' => e = .returned (.tuple #[.int .i64 u, .int .i64 (loadE n a x)]) ∧ Below w.heap.size w w' := by
  subst hu
  exact rloadi_spec A n c a x l w hl hn
theorem rload_at (A : Option Addr) (n c : Nat) (a x : Int) (u : Nat) (l : List UInt8) (w : World) (hl : IsB w A n l) (hn : n ≤ 9223372036854775807) (hu : loadU l a x = u) :
    Calls Tryz.prog 99 #[.slice A n c, .int .i64 a, .int .i64 x] w fun e w' => e = .returned (.tuple #[.int .u64 u, .int .i64 (loadE n a x)]) ∧ Below w.heap.size w w' := by
  subst hu
  exact rload_spec A n c a x l w hl hn
set_option maxHeartbeats 1000000 in
theorem rinl30_is (A : Option Addr) (n c : Nat) (p q t v f : Int) (r : Bool) (l : List UInt8) (w : World) (h : IsB w A n l) (hn : n ≤ 1099511627776) (hf : isW f = true) (hi : inlineT t = true) (hr : mnStands l p q t v 0 f = r) :
    Calls Tryz.prog 75 #[.slice A n c, .agg #[.int .i64 p, .int .i64 q, .int .i64 t, .int .i64 v], .int .i64 f] w fun e w' => e = .returned (.bool r) ∧ Below w.heap.size w w' := by
  unfold mnStands at hr
  have hb64 := loadI_64 l p q
  have hb65 := loadU_64 l p q
  obtain ⟨nn, hnn⟩ : ∃ x, loadI l p q = x := ⟨_, rfl⟩
  obtain ⟨u, hu⟩ : ∃ x, loadU l p q = x := ⟨_, rfl⟩
  unfold mnS mnP at hr
  rw [hnn] at hr hb64
  rw [hu] at hr hb65
  have HNN := Lib.hid hnn
  have HU := Lib.hid hu
  have HF := Lib.hid hf
  have hn2 : n ≤ 9223372036854775807 := by omega
  clear hnn hu hf
  by_cases h1 : t = 1
  · subst h1
    rw [if_pos rfl] at hr
    have HR := Lib.hid hr
    clear hr hi
    have HI := Lib.hid (h.alloc (.cells #[.int .i64 p, .int .i64 q, .int .i64 1, .int .i64 v] 48))
    have HX := Lib.hid (Blk.new w 48 #[.int .i64 p, .int .i64 q, .int .i64 1, .int .i64 v])
    have HB := Lib.hid ((Below.refl w.heap.size w).alloc (Nat.le_refl _) (.cells #[.int .i64 p, .int .i64 q, .int .i64 1, .int .i64 v] 48))
    clear h
    have x0 := cell0 HX.out
    have x1 := cell1 HX.out
    have x2 := cell2 HX.out
    have x3 := cell3 HX.out
    go_enter Tryz.func75, Tryz.ntmps75
    go_wp2_with fail
    go_at_call 99
    refine (rload_at A n c p q u l _ HI.out hn2 HU.out).mono ?_
    rintro e wn ⟨rfl, hb⟩
    replace HB := Lib.hid (pure_below HB.out hb)
    replace HI := Lib.hid (HI.out.pure hb)
    replace HX := Lib.hid (HX.out.pure hb)
    clear x0 x1 x2 x3 hb
    have x0 := cell0 HX.out
    have x1 := cell1 HX.out
    have x2 := cell2 HX.out
    have x3 := cell3 HX.out
    go_wp2_with fail
    go_at_call 111
    refine (rloadi_at A n c p q nn l _ HI.out hn2 HNN.out).mono ?_
    rintro e wn ⟨rfl, hb⟩
    replace HB := Lib.hid (pure_below HB.out hb)
    replace HI := Lib.hid (HI.out.pure hb)
    replace HX := Lib.hid (HX.out.pure hb)
    clear x0 x1 x2 x3 hb
    have x0 := cell0 HX.out
    have x1 := cell1 HX.out
    have x2 := cell2 HX.out
    have x3 := cell3 HX.out
    go_wp2_with fail
    go_at_call 112
    refine (rfitsi_at f nn r _ HF.out hb64 HR.out).mono ?_
    rintro e wn ⟨rfl, hb⟩
    replace HB := Lib.hid (pure_below HB.out hb)
    replace HI := Lib.hid (HI.out.pure hb)
    replace HX := Lib.hid (HX.out.pure hb)
    clear x0 x1 x2 x3 hb
    have x0 := cell0 HX.out
    have x1 := cell1 HX.out
    have x2 := cell2 HX.out
    have x3 := cell3 HX.out
    go_wp2
    go_ret
    exact ⟨rfl, HB.out⟩
  rw [if_neg h1] at hr
  have e1 : (t == 1) = false := beq_eq_false_iff_ne.mpr h1
  by_cases h2 : t = 2
  · subst h2
    rw [if_pos rfl] at hr
    have HR := Lib.hid hr
    clear hr h1 hi e1
    have HI := Lib.hid (h.alloc (.cells #[.int .i64 p, .int .i64 q, .int .i64 2, .int .i64 v] 48))
    have HX := Lib.hid (Blk.new w 48 #[.int .i64 p, .int .i64 q, .int .i64 2, .int .i64 v])
    have HB := Lib.hid ((Below.refl w.heap.size w).alloc (Nat.le_refl _) (.cells #[.int .i64 p, .int .i64 q, .int .i64 2, .int .i64 v] 48))
    clear h
    have x0 := cell0 HX.out
    have x1 := cell1 HX.out
    have x2 := cell2 HX.out
    have x3 := cell3 HX.out
    go_enter Tryz.func75, Tryz.ntmps75
    go_wp2_with fail
    go_at_call 99
    refine (rload_at A n c p q u l _ HI.out hn2 HU.out).mono ?_
    rintro e wn ⟨rfl, hb⟩
    replace HB := Lib.hid (pure_below HB.out hb)
    replace HI := Lib.hid (HI.out.pure hb)
    replace HX := Lib.hid (HX.out.pure hb)
    clear x0 x1 x2 x3 hb
    have x0 := cell0 HX.out
    have x1 := cell1 HX.out
    have x2 := cell2 HX.out
    have x3 := cell3 HX.out
    go_wp2_with fail
    go_at_call 111
    refine (rloadi_at A n c p q nn l _ HI.out hn2 HNN.out).mono ?_
    rintro e wn ⟨rfl, hb⟩
    replace HB := Lib.hid (pure_below HB.out hb)
    replace HI := Lib.hid (HI.out.pure hb)
    replace HX := Lib.hid (HX.out.pure hb)
    clear x0 x1 x2 x3 hb
    have x0 := cell0 HX.out
    have x1 := cell1 HX.out
    have x2 := cell2 HX.out
    have x3 := cell3 HX.out
    go_wp2_with fail
    go_at_call 76
    refine (rfits_at f u r _ HF.out (by omega) HR.out).mono ?_
    rintro e wn ⟨rfl, hb⟩
    replace HB := Lib.hid (pure_below HB.out hb)
    replace HI := Lib.hid (HI.out.pure hb)
    replace HX := Lib.hid (HX.out.pure hb)
    clear x0 x1 x2 x3 hb
    have x0 := cell0 HX.out
    have x1 := cell1 HX.out
    have x2 := cell2 HX.out
    have x3 := cell3 HX.out
    go_wp2
    go_ret
    exact ⟨rfl, HB.out⟩
  rw [if_neg h2, if_pos hi] at hr
  subst hr
  have e2 : (t == 2) = false := beq_eq_false_iff_ne.mpr h2
  clear h1 h2 hi
  have HI := Lib.hid (h.alloc (.cells #[.int .i64 p, .int .i64 q, .int .i64 t, .int .i64 v] 48))
  have HX := Lib.hid (Blk.new w 48 #[.int .i64 p, .int .i64 q, .int .i64 t, .int .i64 v])
  have HB := Lib.hid ((Below.refl w.heap.size w).alloc (Nat.le_refl _) (.cells #[.int .i64 p, .int .i64 q, .int .i64 t, .int .i64 v] 48))
  clear h
  have x0 := cell0 HX.out
  have x1 := cell1 HX.out
  have x2 := cell2 HX.out
  have x3 := cell3 HX.out
  go_enter Tryz.func75, Tryz.ntmps75
  go_wp2_with fail
  go_at_call 99
  refine (rload_at A n c p q u l _ HI.out hn2 HU.out).mono ?_
  rintro e wn ⟨rfl, hb⟩
  replace HB := Lib.hid (pure_below HB.out hb)
  replace HI := Lib.hid (HI.out.pure hb)
  replace HX := Lib.hid (HX.out.pure hb)
  clear x0 x1 x2 x3 hb
  have x0 := cell0 HX.out
  have x1 := cell1 HX.out
  have x2 := cell2 HX.out
  have x3 := cell3 HX.out
  go_wp2_with fail
  go_at_call 111
  refine (rloadi_at A n c p q nn l _ HI.out hn2 HNN.out).mono ?_
  rintro e wn ⟨rfl, hb⟩
  replace HB := Lib.hid (pure_below HB.out hb)
  replace HI := Lib.hid (HI.out.pure hb)
  replace HX := Lib.hid (HX.out.pure hb)
  clear x0 x1 x2 x3 hb
  have x0 := cell0 HX.out
  have x1 := cell1 HX.out
  have x2 := cell2 HX.out
  have x3 := cell3 HX.out
  go_wp2
  go_ret
  exact ⟨rfl, HB.out⟩
theorem stands_inl {l : List UInt8} {p q t v pos f : Int} (hi : inlineT t = true) : mnStands l p q t v pos f = mnStands l p q t v 0 f := by
  unfold mnStands
  rw [if_pos hi, if_pos hi]
set_option maxHeartbeats 1000000 in
theorem rstands_is (A : Option Addr) (n c : Nat) (p q t v pos f : Int) (r : Bool) (l : List UInt8) (w : World) (h : IsB w A n l) (hn : n ≤ 1099511627776) (hp : pos ≤ 1099511627776) (hf : isW f = true) (hr : mnStands l p q t v pos f = r) :
    Calls Tryz.prog 39 #[.slice A n c, .agg #[.int .i64 p, .int .i64 q, .int .i64 t, .int .i64 v], .int .i64 pos, .int .i64 f] w fun e w' => e = .returned (.bool r) ∧ Below w.heap.size w w' := by
  have HF := Lib.hid hf
  obtain ⟨i, hi⟩ : ∃ i, inlineT t = i := ⟨_, rfl⟩
  have HIN := Lib.hid hi
  clear hf
  cases i with
  | true =>
    rw [stands_inl hi] at hr
    have HR := Lib.hid hr
    clear hr hi
    have HI := Lib.hid (h.alloc (.cells #[.int .i64 p, .int .i64 q, .int .i64 t, .int .i64 v] 48))
    have HX := Lib.hid (Blk.new w 48 #[.int .i64 p, .int .i64 q, .int .i64 t, .int .i64 v])
    have HB := Lib.hid ((Below.refl w.heap.size w).alloc (Nat.le_refl _) (.cells #[.int .i64 p, .int .i64 q, .int .i64 t, .int .i64 v] 48))
    clear h
    have x0 := cell0 HX.out
    have x1 := cell1 HX.out
    have x2 := cell2 HX.out
    have x3 := cell3 HX.out
    go_enter Tryz.func39, Tryz.ntmps39
    go_wp2_with fail
    go_at_call 63
    refine (rinline_is t true _ HIN.out).mono ?_
    rintro e wn ⟨rfl, hb⟩
    replace HB := Lib.hid (pure_below HB.out hb)
    replace HI := Lib.hid (HI.out.pure hb)
    replace HX := Lib.hid (HX.out.pure hb)
    clear x0 x1 x2 x3 hb
    have x0 := cell0 HX.out
    have x1 := cell1 HX.out
    have x2 := cell2 HX.out
    have x3 := cell3 HX.out
    go_wp2_with fail
    go_at_call 75
    refine (rinl30_is A n c p q t v f r l _ HI.out hn HF.out HIN.out HR.out).mono ?_
    rintro e wn ⟨rfl, hb⟩
    replace HB := Lib.hid (pure_below HB.out hb)
    replace HI := Lib.hid (HI.out.pure hb)
    replace HX := Lib.hid (HX.out.pure hb)
    clear x0 x1 x2 x3 hb
    have x0 := cell0 HX.out
    have x1 := cell1 HX.out
    have x2 := cell2 HX.out
    have x3 := cell3 HX.out
    go_wp2
    go_ret
    exact ⟨rfl, HB.out⟩
  | false =>
    have hbd := tgt_bd l p q t v
    have hlen := h.1
    unfold mnStands at hr
    have h1 : t ≠ 1 := by rintro rfl; exact absurd hi (by decide)
    have h2 : t ≠ 2 := by rintro rfl; exact absurd hi (by decide)
    rw [if_neg h1, if_neg h2, if_neg (by rw [hi]; decide)] at hr
    obtain ⟨a, ha⟩ : ∃ a, tgt l p q t v = a := ⟨_, rfl⟩
    rw [ha] at hr hbd
    have HA := Lib.hid ha
    obtain ⟨ha0, ha1⟩ := hbd
    clear ha hi h1 h2
    have HI := Lib.hid (h.alloc (.cells #[.int .i64 p, .int .i64 q, .int .i64 t, .int .i64 v] 48))
    have HX := Lib.hid (Blk.new w 48 #[.int .i64 p, .int .i64 q, .int .i64 t, .int .i64 v])
    have HB := Lib.hid ((Below.refl w.heap.size w).alloc (Nat.le_refl _) (.cells #[.int .i64 p, .int .i64 q, .int .i64 t, .int .i64 v] 48))
    clear h
    have x0 := cell0 HX.out
    have x1 := cell1 HX.out
    have x2 := cell2 HX.out
    have x3 := cell3 HX.out
    go_enter Tryz.func39, Tryz.ntmps39
    go_wp2_with fail
    go_at_call 63
    refine (rinline_is t false _ HIN.out).mono ?_
    rintro e wn ⟨rfl, hb⟩
    replace HB := Lib.hid (pure_below HB.out hb)
    replace HI := Lib.hid (HI.out.pure hb)
    replace HX := Lib.hid (HX.out.pure hb)
    clear x0 x1 x2 x3 hb
    have x0 := cell0 HX.out
    have x1 := cell1 HX.out
    have x2 := cell2 HX.out
    have x3 := cell3 HX.out
    go_wp2_with fail
    go_at_call 65
    refine (rtarget_is A n c p q t v a _ l _ HI.out hn HA.out rfl).mono ?_
    rintro e wn ⟨rfl, hb⟩
    replace HB := Lib.hid (pure_below HB.out hb)
    replace HI := Lib.hid (HI.out.pure hb)
    replace HX := Lib.hid (HX.out.pure hb)
    clear x0 x1 x2 x3 hb
    have x0 := cell0 HX.out
    have x1 := cell1 HX.out
    have x2 := cell2 HX.out
    have x3 := cell3 HX.out
    by_cases hap : a ≤ pos
    · obtain ⟨u, hu⟩ : ∃ u : Nat, pos - a = u := ⟨(pos - a).toNat, by omega⟩
      rw [decide_eq_true hap, Bool.true_and, hu, Int.toNat_natCast] at hr
      have hw1 : IntKind.i64.wrap (pos - a) = u := by rw [hu]; exact IntWalk.i64_in _ (by omega)
      have hw2 : IntKind.u64.wrap (u : Int) = u := by rw [IntKind.wrap_u64]; omega
      have HR := Lib.hid hr
      have HU := Lib.hid hu
      have hub : (u : Int) < 18446744073709551616 := by omega
      clear hr hu
      go_wp2_with fail
      go_at_call 76
      refine (rfits_at f u r _ HF.out hub HR.out).mono ?_
      rintro e wn ⟨rfl, hb⟩
      replace HB := Lib.hid (pure_below HB.out hb)
      replace HI := Lib.hid (HI.out.pure hb)
      replace HX := Lib.hid (HX.out.pure hb)
      clear x0 x1 x2 x3 hb
      have x0 := cell0 HX.out
      have x1 := cell1 HX.out
      have x2 := cell2 HX.out
      have x3 := cell3 HX.out
      go_wp2
      go_ret
      exact ⟨rfl, HB.out⟩
    · rw [decide_eq_false hap, Bool.false_and] at hr
      subst hr
      have hd : decide (a ≤ pos) = false := decide_eq_false hap
      go_wp2
      go_ret
      exact ⟨rfl, HB.out⟩
end Go.Proofs.YtejalfjeihlpeaaGreat
