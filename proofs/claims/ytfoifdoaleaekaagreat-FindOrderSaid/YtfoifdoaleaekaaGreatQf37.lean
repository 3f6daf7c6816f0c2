/-
  Keys in order: one key before another; the search by halves, in plain terms.
  Package find: Find.
-/
import Derived.Test.YtfoifdoaleaekaaGreatQf36
import Derived.ScopeJumps
import Derived.WalkMore
namespace Go.Proofs.YtfoifdoaleaekaaGreat
open Go.RowKit Go.Acc
theorem str_list (s : List UInt8) : (⟨s.toArray⟩ : ByteArray).toList = s := by rw [ByteArray.toList_eq]
set_option maxHeartbeats 400000 in
theorem less_spec (s k : List UInt8) (w : World) : Calls Tryz.prog 67 #[.string ⟨s.toArray⟩, .string ⟨k.toArray⟩] w fun e w' => e = .returned (.bool (Op.bytesLess s k)) ∧ w = w' := by
  have h1 := str_list s
  have h2 := str_list k
  obtain ⟨x, hx⟩ : ∃ x : ByteArray, (⟨s.toArray⟩ : ByteArray) = x := ⟨_, rfl⟩
  obtain ⟨y, hy⟩ : ∃ x : ByteArray, (⟨k.toArray⟩ : ByteArray) = x := ⟨_, rfl⟩
  rw [hx] at h1 ⊢
  rw [hy] at h2 ⊢
  have H1 := Lib.hid h1
  have H2 := Lib.hid h2
  clear h1 h2 hx hy
  go_enter Tryz.func67, Tryz.ntmps67
  go_wp2
  go_ret
  rw [H1.out, H2.out]
  exact ⟨rfl, rfl⟩
def bsr (f : Nat → Int × Bool) : Nat → Nat → Nat → Int × Nat
  | 0, lo, _ => (0, lo)
  | fuel + 1, lo, hi => if lo = hi then (0, lo) else if (f (lo + (hi - lo) / 2)).1 ≠ 0 then ((f (lo + (hi - lo) / 2)).1, 0) else if (f (lo + (hi - lo) / 2)).2 = true then bsr f fuel (lo + (hi - lo) / 2 + 1) hi else bsr f fuel lo (lo + (hi - lo) / 2)
theorem bsr_end (f : Nat → Int × Bool) (fuel lo : Nat) : bsr f fuel lo lo = (0, lo) := by cases fuel <;> simp [bsr]
theorem bsr_err {f : Nat → Int × Bool} {fuel lo hi m : Nat} (h : lo < hi) (hf : hi - lo ≤ fuel) (hm : lo + (hi - lo) / 2 = m) (he : (f m).1 ≠ 0) : bsr f fuel lo hi = ((f m).1, 0) := by
  obtain ⟨k, rfl⟩ : ∃ k, fuel = k + 1 := ⟨fuel - 1, by omega⟩
  subst hm
  rw [bsr, if_neg (by omega), if_pos he]
theorem bsr_up {f : Nat → Int × Bool} {fuel lo hi m : Nat} (h : lo < hi) (hf : hi - lo ≤ fuel) (hm : lo + (hi - lo) / 2 = m) (he : (f m).1 = 0) (hl : (f m).2 = true) : bsr f fuel lo hi = bsr f (fuel - 1) (m + 1) hi := by
  obtain ⟨k, rfl⟩ : ∃ k, fuel = k + 1 := ⟨fuel - 1, by omega⟩
  subst hm
  rw [bsr, if_neg (by omega), if_neg (by rw [he]; decide), if_pos hl]
  rfl
theorem bsr_down {f : Nat → Int × Bool} {fuel lo hi m : Nat} (h : lo < hi) (hf : hi - lo ≤ fuel) (hm : lo + (hi - lo) / 2 = m) (he : (f m).1 = 0) (hl : (f m).2 = false) : bsr f fuel lo hi = bsr f (fuel - 1) lo m := by
  obtain ⟨k, rfl⟩ : ∃ k, fuel = k + 1 := ⟨fuel - 1, by omega⟩
  subst hm
  rw [bsr, if_neg (by omega), if_neg (by rw [he]; decide), if_neg (by rw [hl]; decide)]
  rfl

end Go.Proofs.YtfoifdoaleaekaaGreat

/-
  Package find: the search by halves.
-/
namespace Go.Proofs.YtfoifdoaleaekaaGreat
open Go.RowKit Go.Acc
def fiF (l k : List UInt8) (p q t v : Int) (i : Nat) : Int × Bool := (rkE l p q t v i, Op.bytesLess (rkS l p q t v i) k)
set_option maxRecDepth 100000 in
set_option maxHeartbeats 1000000 in
theorem find1_spec (A : Option Addr) (n c g1 g2 : Nat) (p q t v N : Int) (i : Nat) (l k : List UInt8) (w : World) (h : IsB w A n l) (hc : n ≤ c) (hn : n ≤ 1099511627776) (h1 : Blk w g1 110 #[(.slice A n c), .int .i64 p, .int .i64 q, .int .i64 t, .int .i64 v, .int .i64 N]) (h2 : Blk w g2 9 #[.string ⟨k.toArray⟩]) :
    Calls Tryz.prog 65 #[.int .i64 i, .pointer (some ⟨g1, 0, none⟩), .pointer (some ⟨g2, 0, none⟩)] w fun e w' => e = .returned (.tuple #[.bool (fiF l k p q t v i).2, .int .i64 (fiF l k p q t v i).1]) ∧ Below w.heap.size w w' := by
  have k0 : _ = some (Value.slice A n c) := h1.cell 0
  have k1 : _ = some (Value.int .i64 p) := h1.cell 1
  have k2 : _ = some (Value.int .i64 q) := h1.cell 2
  have k3 : _ = some (Value.int .i64 t) := h1.cell 3
  have k4 : _ = some (Value.int .i64 v) := h1.cell 4
  have k5 : _ = some (Value.int .i64 N) := h1.cell 5
  have s0 : _ = some (Value.string ⟨k.toArray⟩) := h2.cell 0
  have H2 := Lib.hid h2
  have HL := Lib.hid h
  clear h h1 h2
  obtain ⟨f1, hf1⟩ : ∃ x, (fiF l k p q t v i).1 = x := ⟨_, rfl⟩
  obtain ⟨f2, hf2⟩ : ∃ x, (fiF l k p q t v i).2 = x := ⟨_, rfl⟩
  obtain ⟨s, hs⟩ : ∃ x, rkS l p q t v i = x := ⟨_, rfl⟩
  have HE := Lib.hid (show rkE l p q t v i = f1 from hf1)
  have HS := Lib.hid hs
  have HF := Lib.hid (show Op.bytesLess s k = f2 by rw [← hs]; exact hf2)
  rw [hf1, hf2]
  clear hf1 hf2 hs
  go_enter Tryz.func65, Tryz.ntmps65
  go_wp2_with fail
  go_at_call 66
  refine (ftat_spec A n c p q t v N i l _ HL.out hc hn).mono ?_
  unfold SkW
  rw [HE.out, HS.out]
  rintro e w1 ⟨rfl, hb⟩
  have HB := Lib.hid hb
  clear k0 k1 k2 k3 k4 k5 s0
  have s0 : w1.cell? ⟨g2, 0, none⟩ = some (Value.string ⟨k.toArray⟩) := (H2.out.pure hb).cell 0
  clear hb
  go_wp2_with fail
  go_at_call 67
  refine (less_spec s k _).mono ?_
  rw [HF.out]
  rintro e w2 ⟨rfl, rfl⟩
  go_wp2
  go_ret2
  exact ⟨rfl, HB.out⟩
theorem find1_at (A : Option Addr) (n c g1 g2 : Nat) (p q t v N j : Int) (i : Nat) (f1 : Int) (f2 : Bool) (l k : List UInt8) (w : World) (h : IsB w A n l) (hc : n ≤ c) (hn : n ≤ 1099511627776) (h1 : Blk w g1 110 #[(.slice A n c), .int .i64 p, .int .i64 q, .int .i64 t, .int .i64 v, .int .i64 N]) (h2 : Blk w g2 9 #[.string ⟨k.toArray⟩]) (hj : j = (i : Int)) (hf1 : (fiF l k p q t v i).1 = f1) (hf2 : (fiF l k p q t v i).2 = f2) :
    Calls Tryz.prog 65 #[.int .i64 j, .pointer (some ⟨g1, 0, none⟩), .pointer (some ⟨g2, 0, none⟩)] w fun e w' => e = .returned (.tuple #[.bool f2, .int .i64 f1]) ∧ Below w.heap.size w w' := by
  subst hj hf1 hf2
  exact find1_spec A n c g1 g2 p q t v N i l k w h hc hn h1 h2
def HalvesJ (A : Option Addr) (n c g1 g2 N : Nat) (p q t v : Int) (l k : List UInt8) (w : World) (x y : Int) (lo hi : Nat) (w' : World) : Prop :=
  x = (lo : Int) ∧ y = (hi : Int) ∧ lo ≤ hi ∧ hi ≤ N ∧ (∃ fuel, hi - lo ≤ fuel ∧ bsr (fiF l k p q t v) fuel lo hi = bsr (fiF l k p q t v) N 0 N) ∧ Below w.heap.size w w' ∧ IsB w' A n l ∧ Blk w' g1 110 #[(.slice A n c), .int .i64 p, .int .i64 q, .int .i64 t, .int .i64 v, .int .i64 N] ∧ Blk w' g2 9 #[.string ⟨k.toArray⟩]
set_option maxRecDepth 100000 in
set_option maxHeartbeats 1000000 in
theorem halves_spec (A : Option Addr) (n c g1 g2 N : Nat) (p q t v : Int) (l k : List UInt8) (w : World) (h : IsB w A n l) (hc : n ≤ c) (hn : n ≤ 1099511627776) (hN : N ≤ 1099511627776) (h1 : Blk w g1 110 #[(.slice A n c), .int .i64 p, .int .i64 q, .int .i64 t, .int .i64 v, .int .i64 N]) (h2 : Blk w g2 9 #[.string ⟨k.toArray⟩]) :
    Calls Tryz.prog 64 #[.int .i64 N, .func (.func 65) #[] #[.pointer (some ⟨g1, 0, none⟩), .pointer (some ⟨g2, 0, none⟩)]] w fun e w' => e = .returned (.tuple #[.int .i64 (bsr (fiF l k p q t v) N 0 N).2, .int .i64 (bsr (fiF l k p q t v) N 0 N).1]) ∧ Below w.heap.size w w' := by
  have HF1 := Tryz.call65
  have HL := Lib.hid h
  have H1 := Lib.hid h1
  have H2 := Lib.hid h2
  clear h h1 h2
  go_enter Tryz.func64, Tryz.ntmps64
  go_wp2
  refine wp_scope_jumps 0 (fun a' w' => ∃ (x y : Int) (lo hi : Nat) (u2 u3 u8 u9 u10 u11 u12 u13 u14 u15 u16 u17 u18 u19 u20 u21 u22 u23 u24 u25 u26 u27 u28 u29 u30 u31 u32 u33 u34 : Value), a' = { tmps := #[.int .i64 N, .func (.func 65) #[] #[.pointer (some ⟨g1, 0, none⟩), .pointer (some ⟨g2, 0, none⟩)], u2, u3, .int .i64 0, .int .i64 0, .int .i64 x, .int .i64 y, u8, u9, u10, u11, u12, u13, u14, u15, u16, u17, u18, u19, u20, u21, u22, u23, u24, u25, u26, u27, u28, u29, u30, u31, u32, u33, u34], defers := [] } ∧ HalvesJ A n c g1 g2 N p q t v l k w x y lo hi w') (fun a' _ => (intOf (a'.tmps.getD 7 undef) - intOf (a'.tmps.getD 6 undef)).toNat) rfl ?_ ?_
  · by_cases hz : N = 0
    · subst hz
      go_wp2
      go_step3
      go_wp2
      simp only [Exit.jump]
      go_ret2
      exact ⟨rfl, Below.refl _ _⟩
    · have hlt : 0 < N := by omega
      have HB := Lib.hid (Below.refl w.heap.size w)
      go_wp2
      go_step3
      go_wp2_with fail
      obtain ⟨m, hm⟩ : ∃ m : Nat, 0 + (N - 0) / 2 = m := ⟨_, rfl⟩
      obtain ⟨f1, hf1⟩ : ∃ x, (fiF l k p q t v m).1 = x := ⟨_, rfl⟩
      obtain ⟨f2, hf2⟩ : ∃ x, (fiF l k p q t v m).2 = x := ⟨_, rfl⟩
      have HF5 := Lib.hid hf1
      have HF6 := Lib.hid hf2
      go_at_call 65
      refine (find1_at A n c g1 g2 p q t v N ((N : Int) / 2) m f1 f2 l k _ HL.out hc hn H1.out H2.out (by omega) HF5.out HF6.out).mono ?_
      rintro e w1 ⟨rfl, hb⟩
      replace HB := Lib.hid (pure_below HB.out hb)
      replace HL := Lib.hid (HL.out.pure hb)
      replace H1 := Lib.hid (H1.out.pure hb)
      replace H2 := Lib.hid (H2.out.pure hb)
      clear hb hf1 hf2
      have hfu : N - 0 ≤ N := by omega
      by_cases he : f1 = 0
      · subst he
        cases f2 with
        | true =>
          have HZ := Lib.hid ((bsr_up (f := fiF l k p q t v) hlt hfu hm HF5.out HF6.out).symm.trans rfl)
          go_wp2
          go_step3
          exact ⟨rfl, _, _, m + 1, N, _, _, _, _, _, _, _, _, _, _, _, _, _, _, _, _, _, _, _, _, _, _, _, _, _, _, _, _, _, rfl, ⟨by omega, by omega, by omega, by omega, ⟨N - 1, by omega, HZ.out⟩, HB.out, HL.out, H1.out, H2.out⟩⟩
        | false =>
          have HZ := Lib.hid ((bsr_down (f := fiF l k p q t v) hlt hfu hm HF5.out HF6.out).symm.trans rfl)
          go_wp2
          go_step3
          exact ⟨rfl, _, _, 0, m, _, _, _, _, _, _, _, _, _, _, _, _, _, _, _, _, _, _, _, _, _, _, _, _, _, _, _, _, _, rfl, ⟨by omega, by omega, by omega, by omega, ⟨N - 1, by omega, HZ.out⟩, HB.out, HL.out, H1.out, H2.out⟩⟩
      · have hne : (f1 != 0) = true := by simpa using he
        have HZ := Lib.hid ((bsr_err (f := fiF l k p q t v) hlt hfu hm (by rw [HF5.out]; exact he)).symm.trans rfl)
        clear he hm
        go_wp2
        simp only [Exit.jump]
        go_ret2
        refine ⟨?_, HB.out⟩
        rw [← HZ.out, HF5.out]
        rfl
  · clear HL H1 H2
    rintro a' wr ⟨x, y, lo, hi, u2, u3, u8, u9, u10, u11, u12, u13, u14, u15, u16, u17, u18, u19, u20, u21, u22, u23, u24, u25, u26, u27, u28, u29, u30, u31, u32, u33, u34, rfl, rfl, rfl, hlh, hhn, ⟨fuel, hfl, hq⟩, hB, hL, h1, h2⟩
    have HB := Lib.hid hB
    have HL := Lib.hid hL
    have H1 := Lib.hid h1
    have H2 := Lib.hid h2
    have HQ := Lib.hid hq
    clear hB hL h1 h2 hq
    by_cases hz : lo = hi
    · subst hz
      go_wp2
      simp only [Exit.jump]
      go_ret2
      refine ⟨?_, HB.out⟩
      rw [← HQ.out, bsr_end]
      rfl
    · have hlt : lo < hi := by omega
      have heq : ((lo : Int) == (hi : Int)) = false := beq_eq_false_iff_ne.mpr (by omega)
      clear hz
      go_wp2_with fail
      obtain ⟨m, hm⟩ : ∃ m : Nat, lo + (hi - lo) / 2 = m := ⟨_, rfl⟩
      obtain ⟨f1, hf1⟩ : ∃ x, (fiF l k p q t v m).1 = x := ⟨_, rfl⟩
      obtain ⟨f2, hf2⟩ : ∃ x, (fiF l k p q t v m).2 = x := ⟨_, rfl⟩
      have HF5 := Lib.hid hf1
      have HF6 := Lib.hid hf2
      go_at_call 65
      refine (find1_at A n c g1 g2 p q t v N ((lo : Int) + ((hi : Int) - (lo : Int)) / 2) m f1 f2 l k _ HL.out hc hn H1.out H2.out (by omega) HF5.out HF6.out).mono ?_
      rintro e w1 ⟨rfl, hb⟩
      replace HB := Lib.hid (pure_below HB.out hb)
      replace HL := Lib.hid (HL.out.pure hb)
      replace H1 := Lib.hid (H1.out.pure hb)
      replace H2 := Lib.hid (H2.out.pure hb)
      clear hb hf1 hf2
      have hfu : hi - lo ≤ fuel := by omega
      by_cases he : f1 = 0
      · subst he
        cases f2 with
        | true =>
          have HZ := Lib.hid ((bsr_up (f := fiF l k p q t v) hlt hfu hm HF5.out HF6.out).symm.trans HQ.out)
          go_wp2
          go_step3
          (refine ⟨rfl, ⟨_, _, m + 1, hi, _, _, _, _, _, _, _, _, _, _, _, _, _, _, _, _, _, _, _, _, _, _, _, _, _, _, _, _, _, rfl, ⟨by omega, by omega, by omega, by omega, ⟨fuel - 1, by omega, HZ.out⟩, HB.out, HL.out, H1.out, H2.out⟩⟩, ?_⟩; simp [intOf]; omega)
        | false =>
          have HZ := Lib.hid ((bsr_down (f := fiF l k p q t v) hlt hfu hm HF5.out HF6.out).symm.trans HQ.out)
          go_wp2
          go_step3
          (refine ⟨rfl, ⟨_, _, lo, m, _, _, _, _, _, _, _, _, _, _, _, _, _, _, _, _, _, _, _, _, _, _, _, _, _, _, _, _, _, rfl, ⟨by omega, by omega, by omega, by omega, ⟨fuel - 1, by omega, HZ.out⟩, HB.out, HL.out, H1.out, H2.out⟩⟩, ?_⟩; simp [intOf]; omega)
      · have hne : (f1 != 0) = true := by simpa using he
        have HZ := Lib.hid ((bsr_err (f := fiF l k p q t v) hlt hfu hm (by rw [HF5.out]; exact he)).symm.trans HQ.out)
        clear he hm
        go_wp2
        simp only [Exit.jump]
        go_ret2
        refine ⟨?_, HB.out⟩
        rw [← HZ.out, HF5.out]
        rfl
end Go.Proofs.YtfoifdoaleaekaaGreat

namespace Go.Proofs.YtfoifdoaleaekaaGreat
open Go.RowKit Go.Acc
def opN (l : List UInt8) (p q t v : Int) : Nat := lsLen l (kyP l p q t v) (kyQ l p q t v) (kyT l p q t v) (kyV l p q t v)
def fdX (l k : List UInt8) (p q t v : Int) : Int × Nat := bsr (fiF l k (kyP l p q t v) (kyQ l p q t v) (kyT l p q t v) (kyV l p q t v)) (opN l p q t v) 0 (opN l p q t v)
def fdGo (l k : List UInt8) (p q t v : Int) : Bool :=
  decide (opE l p q t v = 0 ∧ (fdX l k p q t v).1 = 0 ∧ (fdX l k p q t v).2 ≠ opN l p q t v ∧ rkE l (kyP l p q t v) (kyQ l p q t v) (kyT l p q t v) (kyV l p q t v) (fdX l k p q t v).2 = 0 ∧ rkS l (kyP l p q t v) (kyQ l p q t v) (kyT l p q t v) (kyV l p q t v) (fdX l k p q t v).2 = k)
def fdE (l k : List UInt8) (p q t v : Int) : Int :=
  if fdGo l k p q t v = true then atE l p q t v (fdX l k p q t v).2 else if opE l p q t v ≠ 0 then opE l p q t v else if (fdX l k p q t v).1 ≠ 0 then (fdX l k p q t v).1 else if (fdX l k p q t v).2 = opN l p q t v then 0 else rkE l (kyP l p q t v) (kyQ l p q t v) (kyT l p q t v) (kyV l p q t v) (fdX l k p q t v).2
def fdB (l k : List UInt8) (p q t v : Int) : Bool := fdGo l k p q t v && (atE l p q t v (fdX l k p q t v).2 == 0)
def fdP (l k : List UInt8) (p q t v : Int) : Int := if fdGo l k p q t v = true then atP l p q t v (fdX l k p q t v).2 else 0
def fdQ (l k : List UInt8) (p q t v : Int) : Int := if fdGo l k p q t v = true then atQ l p q t v (fdX l k p q t v).2 else 0
def fdT (l k : List UInt8) (p q t v : Int) : Int := if fdGo l k p q t v = true then atT l p q t v (fdX l k p q t v).2 else 0
def fdV (l k : List UInt8) (p q t v : Int) : Int := if fdGo l k p q t v = true then atV l p q t v (fdX l k p q t v).2 else 0
theorem fd_cases (l k : List UInt8) (p q t v : Int) : (opE l p q t v ≠ 0 ∧ fdGo l k p q t v = false ∧ fdE l k p q t v = opE l p q t v) ∨ (opE l p q t v = 0 ∧ (((fdX l k p q t v).1 ≠ 0 ∧ fdGo l k p q t v = false ∧ fdE l k p q t v = (fdX l k p q t v).1) ∨ ((fdX l k p q t v).1 = 0 ∧
    (((fdX l k p q t v).2 = opN l p q t v ∧ fdGo l k p q t v = false ∧ fdE l k p q t v = 0) ∨ ((fdX l k p q t v).2 ≠ opN l p q t v ∧ ((rkE l (kyP l p q t v) (kyQ l p q t v) (kyT l p q t v) (kyV l p q t v) (fdX l k p q t v).2 ≠ 0 ∧ fdGo l k p q t v = false ∧ fdE l k p q t v = rkE l (kyP l p q t v) (kyQ l p q t v) (kyT l p q t v) (kyV l p q t v) (fdX l k p q t v).2) ∨
      (rkE l (kyP l p q t v) (kyQ l p q t v) (kyT l p q t v) (kyV l p q t v) (fdX l k p q t v).2 = 0 ∧ ((rkS l (kyP l p q t v) (kyQ l p q t v) (kyT l p q t v) (kyV l p q t v) (fdX l k p q t v).2 ≠ k ∧ fdGo l k p q t v = false ∧ fdE l k p q t v = 0) ∨ (rkS l (kyP l p q t v) (kyQ l p q t v) (kyT l p q t v) (kyV l p q t v) (fdX l k p q t v).2 = k ∧ fdGo l k p q t v = true ∧ fdE l k p q t v = atE l p q t v (fdX l k p q t v).2))))))))) := by
  unfold fdE
  by_cases h1 : opE l p q t v = 0
  · refine .inr ⟨h1, ?_⟩
    by_cases h2 : (fdX l k p q t v).1 = 0
    · refine .inr ⟨h2, ?_⟩
      by_cases h3 : (fdX l k p q t v).2 = opN l p q t v
      · have hg : fdGo l k p q t v = false := decide_eq_false (fun h => h.2.2.1 h3)
        refine .inl ⟨h3, hg, ?_⟩
        rw [if_neg (by rw [hg]; decide), if_neg (by rw [h1]; decide), if_neg (by rw [h2]; decide), if_pos h3]
      · refine .inr ⟨h3, ?_⟩
        by_cases h4 : rkE l (kyP l p q t v) (kyQ l p q t v) (kyT l p q t v) (kyV l p q t v) (fdX l k p q t v).2 = 0
        · refine .inr ⟨h4, ?_⟩
          by_cases h5 : rkS l (kyP l p q t v) (kyQ l p q t v) (kyT l p q t v) (kyV l p q t v) (fdX l k p q t v).2 = k
          · have hg : fdGo l k p q t v = true := decide_eq_true ⟨h1, h2, h3, h4, h5⟩
            exact .inr ⟨h5, hg, by rw [if_pos hg]⟩
          · have hg : fdGo l k p q t v = false := decide_eq_false (fun h => h5 h.2.2.2.2)
            refine .inl ⟨h5, hg, ?_⟩
            rw [if_neg (by rw [hg]; decide), if_neg (by rw [h1]; decide), if_neg (by rw [h2]; decide), if_neg h3, h4]
        · have hg : fdGo l k p q t v = false := decide_eq_false (fun h => h4 h.2.2.2.1)
          refine .inl ⟨h4, hg, ?_⟩
          rw [if_neg (by rw [hg]; decide), if_neg (by rw [h1]; decide), if_neg (by rw [h2]; decide), if_neg h3]
    · have hg : fdGo l k p q t v = false := decide_eq_false (fun h => h2 h.2.1)
      refine .inl ⟨h2, hg, ?_⟩
      rw [if_neg (by rw [hg]; decide), if_neg (by rw [h1]; decide), if_pos h2]
  · have hg : fdGo l k p q t v = false := decide_eq_false (fun h => h1 h.1)
    refine .inl ⟨h1, hg, ?_⟩
    rw [if_neg (by rw [hg]; decide), if_pos h1]
theorem halves_is (A : Option Addr) (n c g1 g2 N : Nat) (p q t v : Int) (l k : List UInt8) (be : Int) (bi : Nat) (w : World) (h : IsB w A n l) (hc : n ≤ c) (hn : n ≤ 1099511627776) (hN : N ≤ 1099511627776) (h1 : Blk w g1 110 #[(.slice A n c), .int .i64 p, .int .i64 q, .int .i64 t, .int .i64 v, .int .i64 N]) (h2 : Blk w g2 9 #[.string ⟨k.toArray⟩]) (hB : bsr (fiF l k p q t v) N 0 N = (be, bi)) :
    Calls Tryz.prog 64 #[.int .i64 N, .func (.func 65) #[] #[.pointer (some ⟨g1, 0, none⟩), .pointer (some ⟨g2, 0, none⟩)]] w fun e w' => e = .returned (.tuple #[.int .i64 (bi : Int), .int .i64 be]) ∧ Below w.heap.size w w' := by
  have := halves_spec A n c g1 g2 N p q t v l k w h hc hn hN h1 h2
  rw [hB] at this
  exact this
def FdW (w : World) (l k : List UInt8) (p q t v : Int) (e : Ending) (w' : World) : Prop :=
  e = .returned (.tuple #[.agg #[.int .i64 (fdP l k p q t v), .int .i64 (fdQ l k p q t v), .int .i64 (fdT l k p q t v), .int .i64 (fdV l k p q t v)], .bool (fdB l k p q t v), .int .i64 (fdE l k p q t v)]) ∧ Below w.heap.size w w'
theorem fdw_no {w w' : World} {l k : List UInt8} {p q t v er : Int} (hg : fdGo l k p q t v = false) (h : fdE l k p q t v = er) (hb : Below w.heap.size w w') :
    FdW w l k p q t v (.returned (.tuple #[.agg #[.int .i64 0, .int .i64 0, .int .i64 0, .int .i64 0], .bool false, .int .i64 er])) w' := by
  unfold FdW fdB fdP fdQ fdT fdV
  rw [h, hg]
  exact ⟨rfl, hb⟩
theorem fdw_yes {w w' : World} {l k : List UInt8} {p q t v a b d g er : Int} {i : Nat} (hg : fdGo l k p q t v = true) (h : fdE l k p q t v = atE l p q t v (fdX l k p q t v).2) (hi : (fdX l k p q t v).2 = i)
    (h1 : atP l p q t v i = a) (h2 : atQ l p q t v i = b) (h3 : atT l p q t v i = d) (h4 : atV l p q t v i = g) (h5 : atE l p q t v i = er) (hb : Below w.heap.size w w') :
    FdW w l k p q t v (.returned (.tuple #[.agg #[.int .i64 a, .int .i64 b, .int .i64 d, .int .i64 g], .bool (er == 0), .int .i64 er])) w' := by
  unfold FdW fdB fdP fdQ fdT fdV
  rw [h, hg, hi, h1, h2, h3, h4, h5]
  exact ⟨rfl, hb⟩
set_option maxRecDepth 100000 in
set_option maxHeartbeats 2000000 in
theorem ffind_spec (A : Option Addr) (n c : Nat) (p q t v : Int) (l k : List UInt8) (w : World) (h : IsB w A n l) (hc : n ≤ c) (hn : n ≤ 1099511627776) :
    Calls Tryz.prog 28 #[.slice A n c, .agg #[.int .i64 p, .int .i64 q, .int .i64 t, .int .i64 v], .string ⟨k.toArray⟩] w (FdW w l k p q t v) := by
  have HL := Lib.hid (((h.alloc (.cells #[.int .i64 p, .int .i64 q, .int .i64 t, .int .i64 v] 36)).alloc (.cells #[.string ⟨k.toArray⟩] 9)).alloc (.cells #[.int .i64 0, .int .i64 0, .int .i64 0, .int .i64 0] 36))
  have HB := Lib.hid ((((Below.refl w.heap.size w).alloc (Nat.le_refl _) (.cells #[.int .i64 p, .int .i64 q, .int .i64 t, .int .i64 v] 36)).alloc (by simp) (.cells #[.string ⟨k.toArray⟩] 9)).alloc (by simp; omega) (.cells #[.int .i64 0, .int .i64 0, .int .i64 0, .int .i64 0] 36))
  have HX := Lib.hid (((Blk.new w 36 #[.int .i64 p, .int .i64 q, .int .i64 t, .int .i64 v]).alloc (.cells #[.string ⟨k.toArray⟩] 9)).alloc (.cells #[.int .i64 0, .int .i64 0, .int .i64 0, .int .i64 0] 36))
  have HS := Lib.hid ((Blk.new_ (w := w.alloc (.cells #[.int .i64 p, .int .i64 q, .int .i64 t, .int .i64 v] 36)) (g := w.heap.size + 1) (by simp) 9 #[.string ⟨k.toArray⟩]).alloc (.cells #[.int .i64 0, .int .i64 0, .int .i64 0, .int .i64 0] 36))
  have HR := Lib.hid (Blk.new_ (w := (w.alloc (.cells #[.int .i64 p, .int .i64 q, .int .i64 t, .int .i64 v] 36)).alloc (.cells #[.string ⟨k.toArray⟩] 9)) (g := w.heap.size + 1 + 1) (by simp) 36 #[.int .i64 0, .int .i64 0, .int .i64 0, .int .i64 0])
  have hcs := fd_cases l k p q t v
  have hNl : opN l p q t v ≤ n := by rw [← h.1]; exact lslen_le _ _ _ _ _
  obtain ⟨er, her⟩ : ∃ x, opE l p q t v = x := ⟨_, rfl⟩
  rw [her] at hcs
  have H5 := Lib.hid her
  have HCS := Lib.hid hcs
  clear h her hcs
  go_enter Tryz.func28, Tryz.ntmps28
  go_wp2_with fail
  go_at_call 63
  refine (fopen_spec A n c p q t v l _ HL.out hc hn).mono ?_
  generalize ((w.alloc (.cells #[.int .i64 p, .int .i64 q, .int .i64 t, .int .i64 v] 36)).alloc (.cells #[.string ⟨k.toArray⟩] 9)).alloc (.cells #[.int .i64 0, .int .i64 0, .int .i64 0, .int .i64 0] 36) = wB at HL HB HX HR HS ⊢
  intro e w1 hpost
  obtain ⟨S, a0, a1, a2, a3, a4, rfl, hS, heq, hb⟩ := opw_open hpost
  rw [H5.out] at heq ⊢
  replace HB := Lib.hid (pure_below HB.out hb); replace HX := Lib.hid (HX.out.pure hb); replace HS := Lib.hid (HS.out.pure hb); replace HR := Lib.hid (HR.out.pure hb); replace HL := Lib.hid (HL.out.pure hb)
  clear hb hpost
  rcases HCS.out with ⟨hm, hg, he⟩ | ⟨rfl, hcs⟩
  · have HE := Lib.hid he
    have HG := Lib.hid hg
    have hne : (er != 0) = true := by simpa using hm
    have hstS := fun (W : World) (p : Addr) => run_store Tryz.prog W p S .plain hS
    replace HB := Lib.hid (HB.out.alloc HB.out.size (.cells #[S, .int .i64 a0, .int .i64 a1, .int .i64 a2, .int .i64 a3, .int .i64 a4] 110))
    replace HR := Lib.hid (HR.out.alloc (.cells #[S, .int .i64 a0, .int .i64 a1, .int .i64 a2, .int .i64 a3, .int .i64 a4] 110))
    clear he hg hm HCS heq hS
    have r0 := cell0 HR.out; have r1 := cell1 HR.out; have r2 := cell2 HR.out; have r3 := cell3 HR.out; have f0 := HR.out.frozen 0; have f1 := HR.out.frozen 1; have f2 := HR.out.frozen 2; have f3 := HR.out.frozen 3
    go_wp2
    refine bodyPost_ret (v := .tuple #[.agg #[.int .i64 0, .int .i64 0, .int .i64 0, .int .i64 0], .bool false, .int .i64 er]) (by simp [results, Tryz.results28, go_sem, r0, r1, r2, r3]) rfl ?_
    exact fdw_no HG.out HE.out (below_set4 _ HB.out (by omega) _ _ _ _)
  · obtain ⟨rfl, h0, h1, h2, h3, h4⟩ := heq rfl
    obtain ⟨N, hN⟩ : ∃ N, opN l p q t v = N := ⟨_, rfl⟩
    replace h4 : a4 = (N : Int) := by rw [h4, ← hN]; rfl
    subst h4
    have hX : fdX l k p q t v = bsr (fiF l k a0 a1 a2 a3) N 0 N := by unfold fdX; rw [hN, h0, h1, h2, h3]
    obtain ⟨B, hBX⟩ : ∃ B, bsr (fiF l k a0 a1 a2 a3) N 0 N = B := ⟨_, rfl⟩
    obtain ⟨be, bi⟩ := B
    rw [hX, hBX, ← h0, ← h1, ← h2, ← h3, hN] at hcs
    simp only at hcs
    rw [hN] at hNl
    have HBX := Lib.hid hBX
    have HFX := Lib.hid (hX.trans hBX)
    have HC1 := Lib.hid hcs
    have HK := Lib.hid (Blk.new w1 110 #[(.slice A n c), .int .i64 a0, .int .i64 a1, .int .i64 a2, .int .i64 a3, .int .i64 N])
    have hwb : w.heap.size + 1 + 1 < w1.heap.size := HR.out.lt
    clear hcs hX hBX hN heq h0 h1 h2 h3 hS HCS
    replace HB := Lib.hid (HB.out.alloc HB.out.size (.cells #[(.slice A n c), .int .i64 a0, .int .i64 a1, .int .i64 a2, .int .i64 a3, .int .i64 N] 110))
    replace HX := Lib.hid (HX.out.alloc (.cells #[(.slice A n c), .int .i64 a0, .int .i64 a1, .int .i64 a2, .int .i64 a3, .int .i64 N] 110))
    replace HS := Lib.hid (HS.out.alloc (.cells #[(.slice A n c), .int .i64 a0, .int .i64 a1, .int .i64 a2, .int .i64 a3, .int .i64 N] 110))
    replace HR := Lib.hid (HR.out.alloc (.cells #[(.slice A n c), .int .i64 a0, .int .i64 a1, .int .i64 a2, .int .i64 a3, .int .i64 N] 110))
    replace HL := Lib.hid (HL.out.alloc (.cells #[(.slice A n c), .int .i64 a0, .int .i64 a1, .int .i64 a2, .int .i64 a3, .int .i64 N] 110))
    have k0 : _ = some (Value.slice A n c) := HK.out.cell 0; have k1 : _ = some (Value.int .i64 a0) := HK.out.cell 1; have k2 : _ = some (Value.int .i64 a1) := HK.out.cell 2; have k3 : _ = some (Value.int .i64 a2) := HK.out.cell 3; have k4 : _ = some (Value.int .i64 a3) := HK.out.cell 4; have k5 : _ = some (Value.int .i64 N) := HK.out.cell 5
    go_wp2_with fail
    go_at_call 64
    refine (halves_is A n c w1.heap.size (w.heap.size + 1) N a0 a1 a2 a3 l k be bi _ HL.out hc hn (by omega) HK.out HS.out HBX.out).mono ?_
    rintro e w2 ⟨rfl, hb⟩
    clear k0 k1 k2 k3 k4 k5
    replace HB := Lib.hid (pure_below HB.out hb); replace HX := Lib.hid (HX.out.pure hb); replace HS := Lib.hid (HS.out.pure hb); replace HR := Lib.hid (HR.out.pure hb); replace HL := Lib.hid (HL.out.pure hb)
    replace HK := Lib.hid (HK.out.pure hb)
    clear hb
    rcases HC1.out with ⟨hm, hg, he⟩ | ⟨rfl, hcs⟩
    · have HE := Lib.hid he
      have HG := Lib.hid hg
      have hne : (be != 0) = true := by simpa using hm
      clear he hg hm HC1
      have r0 := cell0 HR.out; have r1 := cell1 HR.out; have r2 := cell2 HR.out; have r3 := cell3 HR.out; have f0 := HR.out.frozen 0; have f1 := HR.out.frozen 1; have f2 := HR.out.frozen 2; have f3 := HR.out.frozen 3
      go_wp2
      refine bodyPost_ret (v := .tuple #[.agg #[.int .i64 0, .int .i64 0, .int .i64 0, .int .i64 0], .bool false, .int .i64 be]) (by simp [results, Tryz.results28, go_sem, r0, r1, r2, r3]) rfl ?_
      exact fdw_no HG.out HE.out (below_set4 _ HB.out (by omega) _ _ _ _)
    · rcases hcs with ⟨hbn, hg, he⟩ | ⟨hbi, hcs⟩
      · obtain rfl : N = bi := hbn.symm
        have HE := Lib.hid he
        have HG := Lib.hid hg
        clear he hg HC1
        have k0 : _ = some (Value.slice A n c) := HK.out.cell 0; have k1 : _ = some (Value.int .i64 a0) := HK.out.cell 1; have k2 : _ = some (Value.int .i64 a1) := HK.out.cell 2; have k3 : _ = some (Value.int .i64 a2) := HK.out.cell 3; have k4 : _ = some (Value.int .i64 a3) := HK.out.cell 4; have k5 : _ = some (Value.int .i64 N) := HK.out.cell 5
        have r0 := cell0 HR.out; have r1 := cell1 HR.out; have r2 := cell2 HR.out; have r3 := cell3 HR.out; have f0 := HR.out.frozen 0; have f1 := HR.out.frozen 1; have f2 := HR.out.frozen 2; have f3 := HR.out.frozen 3
        go_wp2
        refine bodyPost_ret (v := .tuple #[.agg #[.int .i64 0, .int .i64 0, .int .i64 0, .int .i64 0], .bool false, .int .i64 0]) (by simp [results, Tryz.results28, go_sem, r0, r1, r2, r3]) rfl ?_
        exact fdw_no HG.out HE.out (below_set4 _ HB.out (by omega) _ _ _ _)
      · have hbn : ((bi : Int) == (N : Int)) = false := beq_eq_false_iff_ne.mpr (by omega)
        obtain ⟨s, hs⟩ : ∃ x, rkS l a0 a1 a2 a3 bi = x := ⟨_, rfl⟩
        obtain ⟨ee, hee⟩ : ∃ x, rkE l a0 a1 a2 a3 bi = x := ⟨_, rfl⟩
        rw [hs, hee] at hcs
        have HSS := Lib.hid hs
        have HEE := Lib.hid hee
        have HC2 := Lib.hid hcs
        clear hcs hs hee hbi HC1
        have k0 : _ = some (Value.slice A n c) := HK.out.cell 0; have k1 : _ = some (Value.int .i64 a0) := HK.out.cell 1; have k2 : _ = some (Value.int .i64 a1) := HK.out.cell 2; have k3 : _ = some (Value.int .i64 a2) := HK.out.cell 3; have k4 : _ = some (Value.int .i64 a3) := HK.out.cell 4; have k5 : _ = some (Value.int .i64 N) := HK.out.cell 5
        go_wp2_with fail
        go_at_call 66
        refine (ftat_spec A n c a0 a1 a2 a3 N bi l _ HL.out hc hn).mono ?_
        unfold SkW
        rw [HSS.out, HEE.out]
        rintro e w3 ⟨rfl, hb⟩
        clear k0 k1 k2 k3 k4 k5
        replace HB := Lib.hid (pure_below HB.out hb); replace HX := Lib.hid (HX.out.pure hb); replace HS := Lib.hid (HS.out.pure hb); replace HR := Lib.hid (HR.out.pure hb); replace HL := Lib.hid (HL.out.pure hb)
        replace HK := Lib.hid (HK.out.pure hb)
        clear hb
        rcases HC2.out with ⟨hm, hg, he⟩ | ⟨rfl, hcs⟩
        · have HE := Lib.hid he
          have HG := Lib.hid hg
          have hne : (ee != 0) = true := by simpa using hm
          clear he hg hm HC2
          have r0 := cell0 HR.out; have r1 := cell1 HR.out; have r2 := cell2 HR.out; have r3 := cell3 HR.out; have f0 := HR.out.frozen 0; have f1 := HR.out.frozen 1; have f2 := HR.out.frozen 2; have f3 := HR.out.frozen 3
          go_wp2
          refine bodyPost_ret (v := .tuple #[.agg #[.int .i64 0, .int .i64 0, .int .i64 0, .int .i64 0], .bool false, .int .i64 ee]) (by simp [results, Tryz.results28, go_sem, r0, r1, r2, r3]) rfl ?_
          exact fdw_no HG.out HE.out (below_set4 _ HB.out (by omega) _ _ _ _)
        · rcases hcs with ⟨hsk, hg, he⟩ | ⟨hsk, hg, he⟩
          · have HE := Lib.hid he
            have HG := Lib.hid hg
            have hst : (s == k) = false := by simpa using hsk
            clear he hg hsk HC2
            have x0 := cell0 HX.out; have x1 := cell1 HX.out; have x2 := cell2 HX.out; have x3 := cell3 HX.out; have s0 : _ = some (Value.string ⟨k.toArray⟩) := HS.out.cell 0
            have r0 := cell0 HR.out; have r1 := cell1 HR.out; have r2 := cell2 HR.out; have r3 := cell3 HR.out; have f0 := HR.out.frozen 0; have f1 := HR.out.frozen 1; have f2 := HR.out.frozen 2; have f3 := HR.out.frozen 3
            go_wp2
            refine bodyPost_ret (v := .tuple #[.agg #[.int .i64 0, .int .i64 0, .int .i64 0, .int .i64 0], .bool false, .int .i64 0]) (by simp [results, Tryz.results28, go_sem, r0, r1, r2, r3]) rfl ?_
            exact fdw_no HG.out HE.out (below_set4 _ HB.out (by omega) _ _ _ _)
          · obtain rfl : k = s := hsk.symm
            have HE := Lib.hid he
            have HG := Lib.hid hg
            clear he hg HC2
            obtain ⟨a, ha⟩ : ∃ x, atP l p q t v bi = x := ⟨_, rfl⟩
            obtain ⟨b, hb⟩ : ∃ x, atQ l p q t v bi = x := ⟨_, rfl⟩
            obtain ⟨d, hd⟩ : ∃ x, atT l p q t v bi = x := ⟨_, rfl⟩
            obtain ⟨g, hg⟩ : ∃ x, atV l p q t v bi = x := ⟨_, rfl⟩
            obtain ⟨er, her⟩ : ∃ x, atE l p q t v bi = x := ⟨_, rfl⟩
            have J1 := Lib.hid ha
            have J2 := Lib.hid hb
            have J3 := Lib.hid hd
            have J4 := Lib.hid hg
            have J5 := Lib.hid her
            clear ha hb hd hg her
            have x0 := cell0 HX.out; have x1 := cell1 HX.out; have x2 := cell2 HX.out; have x3 := cell3 HX.out; have s0 : _ = some (Value.string ⟨k.toArray⟩) := HS.out.cell 0
            go_wp2_with fail
            go_at_call 22
            refine (lat_is A n c p q t v bi a b d g er l _ HL.out hc hn J1.out J2.out J3.out J4.out J5.out).mono ?_
            rintro e w4 ⟨rfl, hb⟩
            clear x0 x1 x2 x3 s0
            replace HB := Lib.hid (pure_below HB.out hb); replace HX := Lib.hid (HX.out.pure hb); replace HS := Lib.hid (HS.out.pure hb); replace HR := Lib.hid (HR.out.pure hb); replace HL := Lib.hid (HL.out.pure hb)
            clear hb
            have r0 := cell0 HR.out; have r1 := cell1 HR.out; have r2 := cell2 HR.out; have r3 := cell3 HR.out; have f0 := HR.out.frozen 0; have f1 := HR.out.frozen 1; have f2 := HR.out.frozen 2; have f3 := HR.out.frozen 3
            go_upto_region 11 with fail
            have HR2 : Hid (Blk ((((w4.setCell ⟨w.heap.size + 1 + 1, 0, none⟩ (.int .i64 a)).setCell ⟨w.heap.size + 1 + 1, 1, none⟩ (.int .i64 b)).setCell ⟨w.heap.size + 1 + 1, 2, none⟩ (.int .i64 d)).setCell ⟨w.heap.size + 1 + 1, 3, none⟩ (.int .i64 g)) (w.heap.size + 1 + 1) 36 #[.int .i64 a, .int .i64 b, .int .i64 d, .int .i64 g]) := Lib.hid ((((HR.out.set_ 0 _).set_ 1 _).set_ 2 _).set_ 3 _)
            replace HB := Lib.hid (below_set4 (w.heap.size + 1 + 1) HB.out (by omega) (.int .i64 a) (.int .i64 b) (.int .i64 d) (.int .i64 g))
            clear r0 r1 r2 r3 f0 f1 f2 f3 HX HS HL HR
            generalize (((w4.setCell ⟨w.heap.size + 1 + 1, 0, none⟩ (.int .i64 a)).setCell ⟨w.heap.size + 1 + 1, 1, none⟩ (.int .i64 b)).setCell ⟨w.heap.size + 1 + 1, 2, none⟩ (.int .i64 d)).setCell ⟨w.heap.size + 1 + 1, 3, none⟩ (.int .i64 g) = w5 at HR2 HB ⊢
            have HR := HR2
            have r0 := cell0 HR.out; have r1 := cell1 HR.out; have r2 := cell2 HR.out; have r3 := cell3 HR.out; have f0 := HR.out.frozen 0; have f1 := HR.out.frozen 1; have f2 := HR.out.frozen 2; have f3 := HR.out.frozen 3
            go_wp2
            refine bodyPost_ret (v := .tuple #[.agg #[.int .i64 a, .int .i64 b, .int .i64 d, .int .i64 g], .bool (er == 0), .int .i64 er]) (by simp [results, Tryz.results28, go_sem, r0, r1, r2, r3]) rfl ?_
            exact fdw_yes HG.out (by rw [HFX.out]; exact HE.out) (by rw [HFX.out]) J1.out J2.out J3.out J4.out J5.out (below_set4 _ HB.out (by omega) _ _ _ _)
end Go.Proofs.YtfoifdoaleaekaaGreat

/-
  Package find's reference: Find.
-/
namespace Go.Proofs.YtfoifdoaleaekaaGreat
open Go.RowKit Go.Acc
end Go.Proofs.YtfoifdoaleaekaaGreat
