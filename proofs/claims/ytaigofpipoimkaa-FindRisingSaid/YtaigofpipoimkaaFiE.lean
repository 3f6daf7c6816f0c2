/-
  Keys in order: one key before another; the search by halves, in plain terms.
-/
import Derived.Test.YtaigofpipoimkaaFiC
import Derived.ScopeJumps
import Derived.WalkMore
namespace Go.Proofs.Ytaigofpipoimkaa
open Go.RowKit Go.Acc
theorem str_list (s : List UInt8) : (⟨s.toArray⟩ : ByteArray).toList = s := by rw [ByteArray.toList_eq]
set_option maxHeartbeats 400000 in
theorem less_spec (s k : List UInt8) (w : World) : Calls Try.prog 55 #[.string ⟨s.toArray⟩, .string ⟨k.toArray⟩] w fun e w' => e = .returned (.bool (Op.bytesLess s k)) ∧ w = w' := by
  have h1 := str_list s
  have h2 := str_list k
  obtain ⟨x, hx⟩ : ∃ x : ByteArray, (⟨s.toArray⟩ : ByteArray) = x := ⟨_, rfl⟩
  obtain ⟨y, hy⟩ : ∃ x : ByteArray, (⟨k.toArray⟩ : ByteArray) = x := ⟨_, rfl⟩
  rw [hx] at h1 ⊢
  rw [hy] at h2 ⊢
  have H1 := Lib.hid h1
  have H2 := Lib.hid h2
  clear h1 h2 hx hy
  go_enter Try.func55, Try.ntmps55
  go_wp2
  go_ret
  rw [H1.out, H2.out]
  exact ⟨rfl, rfl⟩
theorem bl_drop {x y : List UInt8} {k : Nat} (h1 : k < x.length) (h2 : k < y.length) : Op.bytesLess (x.drop k) (y.drop k) = (decide (x[k] < y[k]) || (x[k] == y[k] && Op.bytesLess (x.drop (k + 1)) (y.drop (k + 1)))) := by
  rw [List.drop_eq_getElem_cons h1, List.drop_eq_getElem_cons h2]
  rfl
theorem bl_end {x y : List UInt8} {k : Nat} (hx : k ≤ x.length) (hy : k ≤ y.length) (h : k = x.length ∨ k = y.length) : Op.bytesLess (x.drop k) (y.drop k) = decide (x.length < y.length) := by
  rcases h with rfl | rfl
  · rw [List.drop_length]
    by_cases h : x.length < y.length
    · rw [List.drop_eq_getElem_cons h, decide_eq_true h]; rfl
    · rw [List.drop_eq_nil_of_le (by omega), decide_eq_false h]; rfl
  · rw [List.drop_length, decide_eq_false (by omega)]
    cases x.drop y.length <;> rfl
set_option maxHeartbeats 1000000 in
theorem rless_any (x y : ByteArray) (w : World) (hx : x.size ≤ 9223372036854775807) (hy : y.size ≤ 9223372036854775807) :
    Calls Try.prog 105 #[.string x, .string y] w fun e w' => e = .returned (.bool (Op.bytesLess x.data.toList y.data.toList)) ∧ Below w.heap.size w w' := by
  go_enter Try.func105, Try.ntmps105
  go_wp2_with fail
  go_loopw [5] (fun i wr => ∃ k : Nat, k ≤ x.size ∧ k ≤ y.size ∧ i = .int .i64 k ∧ Op.bytesLess (x.data.toList.drop k) (y.data.toList.drop k) = Op.bytesLess x.data.toList y.data.toList ∧ Below w.heap.size w wr) (fun i _ => x.size - (intOf i).toNat)
  case atStart => exact ⟨0, by omega, by omega, rfl, rfl, Below.refl _ _⟩
  case round =>
    obtain ⟨k, hkx, hky, rfl, hr, hB⟩ := hrel
    have HR := Lib.hid hr
    have HB := Lib.hid hB
    clear hr hB
    by_cases h1 : k < x.size
    · by_cases h2 : k < y.size
      · have hb := bl_drop (x := x.data.toList) (y := y.data.toList) (k := k) (by simpa using h1) (by simpa using h2)
        rw [show x.data.toList[k]'(by simpa using h1) = x[k] from rfl, show y.data.toList[k]'(by simpa using h2) = y[k] from rfl] at hb
        have hk0 : (0 : Int) ≤ k := by omega
        have h1i : (k : Int) < x.size := by omega
        have h2i : (k : Int) < y.size := by omega
        by_cases he : x[k] = y[k]
        · have hne : ((x[k].toNat : Int) != (y[k].toNat : Int)) = false := by rw [he]; simp
          have HD := Lib.hid (show Op.bytesLess (x.data.toList.drop (k + 1)) (y.data.toList.drop (k + 1)) = Op.bytesLess x.data.toList y.data.toList by
            rw [← HR.out, hb, he]; simp)
          clear hb he
          go_wp2_with fail
          go_quiet (fail)
          go_wp2
          go_roundw
          case rel => exact ⟨k + 1, by omega, by omega, by go_num, HD.out, below_drewN HB.out _⟩
          case measure => simp [intOf]; omega
        · have hne : ((x[k].toNat : Int) != (y[k].toNat : Int)) = true := by
            simp only [bne_iff_ne, ne_eq]
            intro e
            exact he (UInt8.toNat_inj.mp (by omega))
          have HD := Lib.hid (show decide (x[k].toNat < y[k].toNat) = Op.bytesLess x.data.toList y.data.toList by
            have e1 : (x[k] == y[k]) = false := beq_eq_false_iff_ne.mpr he
            have e2 : decide (x[k] < y[k]) = decide (x[k].toNat < y[k].toNat) := by
              rw [decide_eq_decide, UInt8.lt_iff_toNat_lt]
            rw [← HR.out, hb, e1, e2]
            simp)
          clear hb he
          go_wp2_with fail
          go_quiet (fail)
          go_wp2_with fail
          go_quiet (fail)
          go_wp2
          go_ret
          exact ⟨ret_bool HD.out, below_drewN (below_drewN HB.out _) _⟩
      · have hd : (y.size : Int) ≤ k := by omega
        have HD := Lib.hid (show decide (x.size < y.size) = Op.bytesLess x.data.toList y.data.toList by
          rw [← HR.out, bl_end (by simpa using hkx) (by simpa using hky) (.inr (by simp; omega))]
          simp)
        go_wp2
        go_ret
        exact ⟨ret_bool HD.out, HB.out⟩
    · have hd : (x.size : Int) ≤ k := by omega
      have HD := Lib.hid (show decide (x.size < y.size) = Op.bytesLess x.data.toList y.data.toList by
        rw [← HR.out, bl_end (by simpa using hkx) (by simpa using hky) (.inl (by simp; omega))]
        simp)
      go_wp2
      go_ret
      exact ⟨ret_bool HD.out, HB.out⟩

theorem rless_spec (s k : List UInt8) (w : World) (hs : s.length ≤ 9223372036854775807) (hk : k.length ≤ 9223372036854775807) :
    Calls Try.prog 105 #[.string ⟨s.toArray⟩, .string ⟨k.toArray⟩] w fun e w' => e = .returned (.bool (Op.bytesLess s k)) ∧ Below w.heap.size w w' := rless_any ⟨s.toArray⟩ ⟨k.toArray⟩ w hs hk
/-- The search by halves: f gives error and answer for each index. -/
def bsr (f : Nat → Int × Bool) : Nat → Nat → Nat → Int × Nat
  | 0, lo, _ => (0, lo)
  | fuel + 1, lo, hi => if lo = hi then (0, lo) else if (f (lo + (hi - lo) / 2)).1 ≠ 0 then ((f (lo + (hi - lo) / 2)).1, 0) else if (f (lo + (hi - lo) / 2)).2 = true then bsr f fuel (lo + (hi - lo) / 2 + 1) hi else bsr f fuel lo (lo + (hi - lo) / 2)
theorem bsr_end (f : Nat → Int × Bool) (fuel lo : Nat) : bsr f fuel lo lo = (0, lo) := by cases fuel <;> simp [bsr]
theorem bsr_err {f : Nat → Int × Bool} {fuel lo hi m : Nat} (h : lo < hi) (hf : hi - lo ≤ fuel) (hm : lo + (hi - lo) / 2 = m) (he : (f m).1 ≠ 0) : bsr f fuel lo hi = ((f m).1, 0) := by
  obtain ⟨k, rfl⟩ : ∃ k, fuel = k + 1 := ⟨fuel - 1, by omega⟩
  subst hm
  rw [bsr, if_neg (by omega), if_pos he]
theorem bsr_up {f : Nat → Int × Bool} {fuel lo hi m : Nat} (h : lo < hi) (hf : hi - lo ≤ fuel) (hm : lo + (hi - lo) / 2 = m) (he : (f m).1 = 0) (hl : (f m).2 = true) : bsr f fuel lo hi = bsr f (fuel - 1) (m + 1) hi := by
  obtain ⟨k, rfl⟩ : ∃ k, fuel = k + 1 := ⟨fuel - 1, by omega⟩
  subst hm
  rw [bsr, if_neg (by omega), if_neg (by rw [he]; decide), if_pos hl]
  rfl
theorem bsr_down {f : Nat → Int × Bool} {fuel lo hi m : Nat} (h : lo < hi) (hf : hi - lo ≤ fuel) (hm : lo + (hi - lo) / 2 = m) (he : (f m).1 = 0) (hl : (f m).2 = false) : bsr f fuel lo hi = bsr f (fuel - 1) lo m := by
  obtain ⟨k, rfl⟩ : ∃ k, fuel = k + 1 := ⟨fuel - 1, by omega⟩
  subst hm
  rw [bsr, if_neg (by omega), if_neg (by rw [he]; decide), if_neg (by rw [hl]; decide)]
  rfl

end Go.Proofs.Ytaigofpipoimkaa

/-
  Package find: the search by halves.
-/
namespace Go.Proofs.Ytaigofpipoimkaa
open Go.RowKit Go.Acc
def fiF (l k : List UInt8) (p q t v : Int) (i : Nat) : Int × Bool := (rkE l p q t v i, Op.bytesLess (rkS l p q t v i) k)
set_option maxRecDepth 100000 in
set_option maxHeartbeats 1000000 in
theorem find1_spec (A : Option Addr) (n c g1 g2 : Nat) (p q t v N : Int) (i : Nat) (l k : List UInt8) (w : World) (h : IsB w A n l) (hc : n ≤ c) (hn : n ≤ 1099511627776) (h1 : Blk w g1 114 #[(.slice A n c), .int .i64 p, .int .i64 q, .int .i64 t, .int .i64 v, .int .i64 N]) (h2 : Blk w g2 9 #[.string ⟨k.toArray⟩]) :
    Calls Try.prog 104 #[.int .i64 i, .pointer (some ⟨g1, 0, none⟩), .pointer (some ⟨g2, 0, none⟩)] w fun e w' => e = .returned (.tuple #[.bool (fiF l k p q t v i).2, .int .i64 (fiF l k p q t v i).1]) ∧ Below w.heap.size w w' := by
  have k0 : _ = some (Value.slice A n c) := h1.cell 0
  have k1 : _ = some (Value.int .i64 p) := h1.cell 1
  have k2 : _ = some (Value.int .i64 q) := h1.cell 2
  have k3 : _ = some (Value.int .i64 t) := h1.cell 3
  have k4 : _ = some (Value.int .i64 v) := h1.cell 4
  have k5 : _ = some (Value.int .i64 N) := h1.cell 5
  have s0 : _ = some (Value.string ⟨k.toArray⟩) := h2.cell 0
  have H2 := Lib.hid h2
  have HL := Lib.hid h
  clear h h1 h2
  obtain ⟨f1, hf1⟩ : ∃ x, (fiF l k p q t v i).1 = x := ⟨_, rfl⟩
  obtain ⟨f2, hf2⟩ : ∃ x, (fiF l k p q t v i).2 = x := ⟨_, rfl⟩
  obtain ⟨s, hs⟩ : ∃ x, rkS l p q t v i = x := ⟨_, rfl⟩
  have HE := Lib.hid (show rkE l p q t v i = f1 from hf1)
  have HS := Lib.hid hs
  have HF := Lib.hid (show Op.bytesLess s k = f2 by rw [← hs]; exact hf2)
  rw [hf1, hf2]
  clear hf1 hf2 hs
  go_enter Try.func104, Try.ntmps104
  go_wp2_with fail
  go_at_call 99
  refine (ftat_spec A n c p q t v N i l _ HL.out hc hn).mono ?_
  unfold SkW
  rw [HE.out, HS.out]
  rintro e w1 ⟨rfl, hb⟩
  have HB := Lib.hid hb
  clear k0 k1 k2 k3 k4 k5 s0
  have s0 : w1.cell? ⟨g2, 0, none⟩ = some (Value.string ⟨k.toArray⟩) := (H2.out.pure hb).cell 0
  clear hb
  go_wp2_with fail
  go_at_call 55
  refine (less_spec s k _).mono ?_
  rw [HF.out]
  rintro e w2 ⟨rfl, rfl⟩
  go_wp2
  go_ret2
  exact ⟨rfl, HB.out⟩
theorem find1_at (A : Option Addr) (n c g1 g2 : Nat) (p q t v N j : Int) (i : Nat) (f1 : Int) (f2 : Bool) (l k : List UInt8) (w : World) (h : IsB w A n l) (hc : n ≤ c) (hn : n ≤ 1099511627776) (h1 : Blk w g1 114 #[(.slice A n c), .int .i64 p, .int .i64 q, .int .i64 t, .int .i64 v, .int .i64 N]) (h2 : Blk w g2 9 #[.string ⟨k.toArray⟩]) (hj : j = (i : Int)) (hf1 : (fiF l k p q t v i).1 = f1) (hf2 : (fiF l k p q t v i).2 = f2) :
    Calls Try.prog 104 #[.int .i64 j, .pointer (some ⟨g1, 0, none⟩), .pointer (some ⟨g2, 0, none⟩)] w fun e w' => e = .returned (.tuple #[.bool f2, .int .i64 f1]) ∧ Below w.heap.size w w' := by
  subst hj hf1 hf2
  exact find1_spec A n c g1 g2 p q t v N i l k w h hc hn h1 h2
def HalvesJ (A : Option Addr) (n c g1 g2 N : Nat) (p q t v : Int) (l k : List UInt8) (w : World) (x y : Int) (lo hi : Nat) (w' : World) : Prop :=
  x = (lo : Int) ∧ y = (hi : Int) ∧ lo ≤ hi ∧ hi ≤ N ∧ (∃ fuel, hi - lo ≤ fuel ∧ bsr (fiF l k p q t v) fuel lo hi = bsr (fiF l k p q t v) N 0 N) ∧ Below w.heap.size w w' ∧ IsB w' A n l ∧ Blk w' g1 114 #[(.slice A n c), .int .i64 p, .int .i64 q, .int .i64 t, .int .i64 v, .int .i64 N] ∧ Blk w' g2 9 #[.string ⟨k.toArray⟩]
set_option maxRecDepth 100000 in
set_option maxHeartbeats 1000000 in
theorem halves_spec (A : Option Addr) (n c g1 g2 N : Nat) (p q t v : Int) (l k : List UInt8) (w : World) (h : IsB w A n l) (hc : n ≤ c) (hn : n ≤ 1099511627776) (hN : N ≤ 1099511627776) (h1 : Blk w g1 114 #[(.slice A n c), .int .i64 p, .int .i64 q, .int .i64 t, .int .i64 v, .int .i64 N]) (h2 : Blk w g2 9 #[.string ⟨k.toArray⟩]) :
    Calls Try.prog 103 #[.int .i64 N, .func (.func 104) #[] #[.pointer (some ⟨g1, 0, none⟩), .pointer (some ⟨g2, 0, none⟩)]] w fun e w' => e = .returned (.tuple #[.int .i64 (bsr (fiF l k p q t v) N 0 N).2, .int .i64 (bsr (fiF l k p q t v) N 0 N).1]) ∧ Below w.heap.size w w' := by
  have HF1 := Try.call104
  have HL := Lib.hid h
  have H1 := Lib.hid h1
  have H2 := Lib.hid h2
  clear h h1 h2
  go_enter Try.func103, Try.ntmps103
  go_wp2
  refine wp_scope_jumps 0 (fun a' w' => ∃ (x y : Int) (lo hi : Nat) (u2 u3 u8 u9 u10 u11 u12 u13 u14 u15 u16 u17 u18 u19 u20 u21 u22 u23 u24 u25 u26 u27 u28 u29 u30 u31 u32 u33 u34 : Value), a' = { tmps := #[.int .i64 N, .func (.func 104) #[] #[.pointer (some ⟨g1, 0, none⟩), .pointer (some ⟨g2, 0, none⟩)], u2, u3, .int .i64 0, .int .i64 0, .int .i64 x, .int .i64 y, u8, u9, u10, u11, u12, u13, u14, u15, u16, u17, u18, u19, u20, u21, u22, u23, u24, u25, u26, u27, u28, u29, u30, u31, u32, u33, u34], defers := [] } ∧ HalvesJ A n c g1 g2 N p q t v l k w x y lo hi w') (fun a' _ => (intOf (a'.tmps.getD 7 undef) - intOf (a'.tmps.getD 6 undef)).toNat) rfl ?_ ?_
  · by_cases hz : N = 0
    · subst hz
      go_wp2
      go_step3
      go_wp2
      simp only [Exit.jump]
      go_ret2
      exact ⟨rfl, Below.refl _ _⟩
    · have hlt : 0 < N := by omega
      have HB := Lib.hid (Below.refl w.heap.size w)
      go_wp2
      go_step3
      go_wp2_with fail
      obtain ⟨m, hm⟩ : ∃ m : Nat, 0 + (N - 0) / 2 = m := ⟨_, rfl⟩
      obtain ⟨f1, hf1⟩ : ∃ x, (fiF l k p q t v m).1 = x := ⟨_, rfl⟩
      obtain ⟨f2, hf2⟩ : ∃ x, (fiF l k p q t v m).2 = x := ⟨_, rfl⟩
      have HF5 := Lib.hid hf1
      have HF6 := Lib.hid hf2
      go_at_call 104
      refine (find1_at A n c g1 g2 p q t v N ((N : Int) / 2) m f1 f2 l k _ HL.out hc hn H1.out H2.out (by omega) HF5.out HF6.out).mono ?_
      rintro e w1 ⟨rfl, hb⟩
      replace HB := Lib.hid (pure_below HB.out hb)
      replace HL := Lib.hid (HL.out.pure hb)
      replace H1 := Lib.hid (H1.out.pure hb)
      replace H2 := Lib.hid (H2.out.pure hb)
      clear hb hf1 hf2
      have hfu : N - 0 ≤ N := by omega
      by_cases he : f1 = 0
      · subst he
        cases f2 with
        | true =>
          have HZ := Lib.hid ((bsr_up (f := fiF l k p q t v) hlt hfu hm HF5.out HF6.out).symm.trans rfl)
          go_wp2
          go_step3
          exact ⟨rfl, _, _, m + 1, N, _, _, _, _, _, _, _, _, _, _, _, _, _, _, _, _, _, _, _, _, _, _, _, _, _, _, _, _, _, rfl, ⟨by omega, by omega, by omega, by omega, ⟨N - 1, by omega, HZ.out⟩, HB.out, HL.out, H1.out, H2.out⟩⟩
        | false =>
          have HZ := Lib.hid ((bsr_down (f := fiF l k p q t v) hlt hfu hm HF5.out HF6.out).symm.trans rfl)
          go_wp2
          go_step3
          exact ⟨rfl, _, _, 0, m, _, _, _, _, _, _, _, _, _, _, _, _, _, _, _, _, _, _, _, _, _, _, _, _, _, _, _, _, _, rfl, ⟨by omega, by omega, by omega, by omega, ⟨N - 1, by omega, HZ.out⟩, HB.out, HL.out, H1.out, H2.out⟩⟩
      · have hne : (f1 != 0) = true := by simpa using he
        have HZ := Lib.hid ((bsr_err (f := fiF l k p q t v) hlt hfu hm (by rw [HF5.out]; exact he)).symm.trans rfl)
        clear he hm
        go_wp2
        simp only [Exit.jump]
        go_ret2
        refine ⟨?_, HB.out⟩
        rw [← HZ.out, HF5.out]
        rfl
  · clear HL H1 H2
    rintro a' wr ⟨x, y, lo, hi, u2, u3, u8, u9, u10, u11, u12, u13, u14, u15, u16, u17, u18, u19, u20, u21, u22, u23, u24, u25, u26, u27, u28, u29, u30, u31, u32, u33, u34, rfl, rfl, rfl, hlh, hhn, ⟨fuel, hfl, hq⟩, hB, hL, h1, h2⟩
    have HB := Lib.hid hB
    have HL := Lib.hid hL
    have H1 := Lib.hid h1
    have H2 := Lib.hid h2
    have HQ := Lib.hid hq
    clear hB hL h1 h2 hq
    by_cases hz : lo = hi
    · subst hz
      go_wp2
      simp only [Exit.jump]
      go_ret2
      refine ⟨?_, HB.out⟩
      rw [← HQ.out, bsr_end]
      rfl
    · have hlt : lo < hi := by omega
      have heq : ((lo : Int) == (hi : Int)) = false := beq_eq_false_iff_ne.mpr (by omega)
      clear hz
      go_wp2_with fail
      obtain ⟨m, hm⟩ : ∃ m : Nat, lo + (hi - lo) / 2 = m := ⟨_, rfl⟩
      obtain ⟨f1, hf1⟩ : ∃ x, (fiF l k p q t v m).1 = x := ⟨_, rfl⟩
      obtain ⟨f2, hf2⟩ : ∃ x, (fiF l k p q t v m).2 = x := ⟨_, rfl⟩
      have HF5 := Lib.hid hf1
      have HF6 := Lib.hid hf2
      go_at_call 104
      refine (find1_at A n c g1 g2 p q t v N ((lo : Int) + ((hi : Int) - (lo : Int)) / 2) m f1 f2 l k _ HL.out hc hn H1.out H2.out (by omega) HF5.out HF6.out).mono ?_
      rintro e w1 ⟨rfl, hb⟩
      replace HB := Lib.hid (pure_below HB.out hb)
      replace HL := Lib.hid (HL.out.pure hb)
      replace H1 := Lib.hid (H1.out.pure hb)
      replace H2 := Lib.hid (H2.out.pure hb)
      clear hb hf1 hf2
      have hfu : hi - lo ≤ fuel := by omega
      by_cases he : f1 = 0
      · subst he
        cases f2 with
        | true =>
          have HZ := Lib.hid ((bsr_up (f := fiF l k p q t v) hlt hfu hm HF5.out HF6.out).symm.trans HQ.out)
          go_wp2
          go_step3
          (refine ⟨rfl, ⟨_, _, m + 1, hi, _, _, _, _, _, _, _, _, _, _, _, _, _, _, _, _, _, _, _, _, _, _, _, _, _, _, _, _, _, rfl, ⟨by omega, by omega, by omega, by omega, ⟨fuel - 1, by omega, HZ.out⟩, HB.out, HL.out, H1.out, H2.out⟩⟩, ?_⟩; simp [intOf]; omega)
        | false =>
          have HZ := Lib.hid ((bsr_down (f := fiF l k p q t v) hlt hfu hm HF5.out HF6.out).symm.trans HQ.out)
          go_wp2
          go_step3
          (refine ⟨rfl, ⟨_, _, lo, m, _, _, _, _, _, _, _, _, _, _, _, _, _, _, _, _, _, _, _, _, _, _, _, _, _, _, _, _, _, rfl, ⟨by omega, by omega, by omega, by omega, ⟨fuel - 1, by omega, HZ.out⟩, HB.out, HL.out, H1.out, H2.out⟩⟩, ?_⟩; simp [intOf]; omega)
      · have hne : (f1 != 0) = true := by simpa using he
        have HZ := Lib.hid ((bsr_err (f := fiF l k p q t v) hlt hfu hm (by rw [HF5.out]; exact he)).symm.trans HQ.out)
        clear he hm
        go_wp2
        simp only [Exit.jump]
        go_ret2
        refine ⟨?_, HB.out⟩
        rw [← HZ.out, HF5.out]
        rfl
end Go.Proofs.Ytaigofpipoimkaa
