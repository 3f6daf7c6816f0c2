/-
  Package ref and its reference: Root.
-/
import Derived.Test.YtmahemllfghdfaaRefC
namespace Go.Proofs.Ytmahemllfghdfaa
open Go.RowKit Go.Acc
theorem ret_root {a b c d e : Int} {r : (Int × Int × Int × Int)} {f : Int} (h : r = (a, b, c, d)) (h' : f = e) :
    Ending.returned (.tuple #[.agg #[.int .i64 a, .int .i64 b, .int .i64 c, .int .i64 d], .int .i64 e]) = .returned (.tuple #[.agg #[.int .i64 r.1, .int .i64 r.2.1, .int .i64 r.2.2.1, .int .i64 r.2.2.2], .int .i64 f]) := by
  subst h h'; rfl
theorem rootR_no {l : List UInt8} (h : rootE l ≠ 0) : rootR l = (0, 0, 0, 0) := if_neg h
theorem rootE_1 {l : List UInt8} (h : l.length < 3) : rootE l = 210 := if_pos (.inl h)
theorem rootE_2 {l : List UInt8} {x : UInt8} (hx : l.getD (l.length - 1) 0 = x) (hw : isW (x.toNat : Int) = false) : rootE l = 210 := by
  unfold rootE
  rw [hx, if_pos (.inr hw)]
theorem rootE_3 {l : List UInt8} {x y : UInt8} (h3 : ¬ l.length < 3) (hx : l.getD (l.length - 1) 0 = x) (hy : l.getD (l.length - 2) 0 = y) (hw : isW (x.toNat : Int) = true) (hu : unE y ≠ 0) : rootE l = unE y := by
  unfold rootE
  rw [hx, hy, if_neg (by rw [hw]; simp; omega), if_pos hu]
theorem rootE_4 {l : List UInt8} {x y : UInt8} (h3 : ¬ l.length < 3) (hx : l.getD (l.length - 1) 0 = x) (hy : l.getD (l.length - 2) 0 = y) (hw : isW (x.toNat : Int) = true) (hu : unE y = 0) :
    rootE l = if (l.length : Int) - 2 - x.toNat < 0 ∨ ((l.length : Int) - 2 - x.toNat) % x.toNat ≠ 0 then 210 else 0 := by
  unfold rootE
  rw [hx, hy, if_neg (by rw [hw]; simp; omega), if_neg (by simpa using hu)]
theorem rootR_ok {l : List UInt8} {x y : UInt8} (hx : l.getD (l.length - 1) 0 = x) (hy : l.getD (l.length - 2) 0 = y) (he : rootE l = 0) : rootR l = ((l.length : Int) - 2 - x.toNat, ((x.toNat : Nat) : Int), unT y, unW y) := by
  unfold rootR
  rw [if_pos he, hx, hy]
set_option maxHeartbeats 1000000 in
theorem root_spec (A : Option Addr) (n c : Nat) (l : List UInt8) (w : World) (hl : IsB w A n l) (hn : n ≤ 9223372036854775807) :
    Calls Try.prog 27 #[.slice A n c] w fun e w' => e = .returned (.tuple #[.agg #[.int .i64 (rootR l).1, .int .i64 (rootR l).2.1, .int .i64 (rootR l).2.2.1, .int .i64 (rootR l).2.2.2], .int .i64 (rootE l)]) ∧ Below w.heap.size w w' := by
  have hlen := hl.1
  subst hlen
  by_cases h3 : l.length < 3
  · have HE := Lib.hid (rootE_1 h3)
    have HR := Lib.hid (rootR_no (by rw [rootE_1 h3]; decide))
    go_enter Try.func27, Try.ntmps27
    go_wp2
    refine bodyPost_ret (v := .tuple #[.agg #[.int .i64 0, .int .i64 0, .int .i64 0, .int .i64 0], .int .i64 210]) (by simp [results, Try.results27, go_sem]) rfl ⟨ret_root HR.out HE.out, ?_⟩
    exact (Below.refl _ _).alloc (Nat.le_refl _) _
  · obtain ⟨b, off, rfl, hk1, v1⟩ := isb_at hl (k := l.length - 1) (by omega)
    obtain ⟨b', off', e', hk2, v2⟩ := isb_at hl (k := l.length - 2) (by omega)
    injection e' with e'
    injection e' with e1 e2
    subst e1 e2
    have hx : l.getD (l.length - 1) 0 = l[l.length - 1] := by rw [List.getD_eq_getElem?_getD, List.getElem?_eq_getElem hk1]; rfl
    have hy : l.getD (l.length - 2) 0 = l[l.length - 2] := by rw [List.getD_eq_getElem?_getD, List.getElem?_eq_getElem hk2]; rfl
    generalize l[l.length - 1] = x at hx v1
    generalize l[l.length - 2] = y at hy v2
    have hxb := x.toNat_lt
    have HX := Lib.hid hx
    have HY := Lib.hid hy
    have HV1 := Lib.hid v1
    have HV2 := Lib.hid v2
    have v1 : (w.alloc (.cells #[.int .i64 0, .int .i64 0, .int .i64 0, .int .i64 0] 23)).cell? ⟨b, off + (l.length - 1), none⟩ = some (.int .u8 (x.toNat : Int)) := cell_pure ((Below.refl _ _).alloc (Nat.le_refl _) _) HV1.out
    clear hl hx hy hk1 hk2 v2
    go_enter Try.func27, Try.ntmps27
    go_wp2_with fail
    go_at_call 31
    refine (iswidth_spec _ _).mono ?_
    rintro e w1 ⟨rfl, rfl⟩
    cases hw : isW (x.toNat : Int) with
    | false =>
      have HE := Lib.hid (rootE_2 HX.out hw)
      have HR := Lib.hid (rootR_no (by rw [rootE_2 HX.out hw]; decide))
      clear hw
      go_wp2
      refine bodyPost_ret (v := .tuple #[.agg #[.int .i64 0, .int .i64 0, .int .i64 0, .int .i64 0], .int .i64 210]) (by simp [results, Try.results27, go_sem]) rfl ⟨ret_root HR.out HE.out, ?_⟩
      exact (Below.refl _ _).alloc (Nat.le_refl _) _
    | true =>
      have HW := Lib.hid hw
      have hx1 : 1 ≤ x.toNat ∧ x.toNat ≤ 8 := by have := isW_iff.1 hw; omega
      have hx2 := hx1.1
      have hx3 := hx1.2
      have v2 : (w.alloc (.cells #[.int .i64 0, .int .i64 0, .int .i64 0, .int .i64 0] 23)).cell? ⟨b, off + (l.length - 2), none⟩ = some (.int .u8 (y.toNat : Int)) := cell_pure ((Below.refl _ _).alloc (Nat.le_refl _) _) HV2.out
      clear hw hx1
      go_wp2_with fail
      go_at_call 39
      refine (unpack_spec y _).mono ?_
      rintro e w1 ⟨rfl, hb⟩
      have HB := Lib.hid (pure_trans ((Below.refl w.heap.size w).alloc (Nat.le_refl _) _) hb)
      have HK := Lib.hid ((Blk.new w 23 #[.int .i64 0, .int .i64 0, .int .i64 0, .int .i64 0]).pure hb)
      have c0 := cell0 HK.out
      have c1 := cell1 HK.out
      have c2 := cell2 HK.out
      have c3 := cell3 HK.out
      have f0 := HK.out.frozen 0
      have f1 := HK.out.frozen 1
      have f2 := HK.out.frozen 2
      have f3 := HK.out.frozen 3
      have v1 := cell_pure HB.out HV1.out
      clear v2 hb
      by_cases hu : unE y = 0
      · have HE4 := Lib.hid (rootE_4 h3 HX.out HY.out HW.out hu)
        rw [hu]
        clear hu
        by_cases hp : (l.length : Int) - 2 - x.toNat < 0
        · have HE := Lib.hid (show rootE l = 210 by rw [HE4.out, if_pos (.inl hp)])
          have HR := Lib.hid (rootR_no (by rw [HE.out]; decide))
          go_wp2
          refine bodyPost_ret (v := .tuple #[.agg #[.int .i64 0, .int .i64 0, .int .i64 0, .int .i64 0], .int .i64 210]) (by simp [results, Try.results27, go_sem, c0, c1, c2, c3]) rfl ⟨ret_root HR.out HE.out, ?_⟩
          exact (((HB.out.setCell (Nat.le_refl _) _).setCell (Nat.le_refl _) _).setCell (Nat.le_refl _) _).setCell (Nat.le_refl _) _
        · have hp0 : 0 ≤ (l.length : Int) - 2 - x.toNat := by omega
          have hxn : (x.toNat == 0) = false := by simp; omega
          by_cases hm : ((l.length : Int) - 2 - x.toNat) % x.toNat = 0
          · have HE := Lib.hid (show rootE l = 0 by rw [HE4.out, if_neg (by omega)])
            have HR := Lib.hid (rootR_ok HX.out HY.out HE.out)
            have hm2 : (((l.length : Int) - 2) % (x.toNat : Int) != 0) = false := by simpa using hm
            clear hm
            go_wp2
            refine bodyPost_ret (v := .tuple #[.agg #[.int .i64 ((l.length : Int) - 2 - x.toNat), .int .i64 ((x.toNat : Nat) : Int), .int .i64 (unT y), .int .i64 (unW y)], .int .i64 0]) (by simp [results, Try.results27, go_sem, c0, c1, c2, c3]) rfl ⟨ret_root HR.out HE.out, ?_⟩
            exact (((HB.out.setCell (Nat.le_refl _) _).setCell (Nat.le_refl _) _).setCell (Nat.le_refl _) _).setCell (Nat.le_refl _) _
          · have HE := Lib.hid (show rootE l = 210 by rw [HE4.out, if_pos (.inr hm)])
            have HR := Lib.hid (rootR_no (by rw [HE.out]; decide))
            have hm2 : (((l.length : Int) - 2) % (x.toNat : Int) != 0) = true := by simpa using hm
            clear hm
            go_wp2
            refine bodyPost_ret (v := .tuple #[.agg #[.int .i64 0, .int .i64 0, .int .i64 0, .int .i64 0], .int .i64 210]) (by simp [results, Try.results27, go_sem, c0, c1, c2, c3]) rfl ⟨ret_root HR.out HE.out, ?_⟩
            exact (((HB.out.setCell (Nat.le_refl _) _).setCell (Nat.le_refl _) _).setCell (Nat.le_refl _) _).setCell (Nat.le_refl _) _
      · have HE := Lib.hid (rootE_3 h3 HX.out HY.out HW.out hu)
        have HR := Lib.hid (rootR_no (by rw [HE.out]; exact hu))
        have hne : (unE y != 0) = true := by simpa using hu
        clear hu
        go_wp2
        refine bodyPost_ret (v := .tuple #[.agg #[.int .i64 0, .int .i64 0, .int .i64 0, .int .i64 0], .int .i64 (unE y)]) (by simp [results, Try.results27, go_sem, c0, c1, c2, c3]) rfl ⟨ret_root HR.out HE.out, ?_⟩
        exact (((HB.out.setCell (Nat.le_refl _) _).setCell (Nat.le_refl _) _).setCell (Nat.le_refl _) _).setCell (Nat.le_refl _) _
set_option maxHeartbeats 1000000 in
theorem rroot_spec (A : Option Addr) (n c : Nat) (l : List UInt8) (w : World) (hl : IsB w A n l) (hn : n ≤ 9223372036854775807) :
    Calls Try.prog 28 #[.slice A n c] w fun e w' => e = .returned (.tuple #[.agg #[.int .i64 (rootR l).1, .int .i64 (rootR l).2.1, .int .i64 (rootR l).2.2.1, .int .i64 (rootR l).2.2.2], .int .i64 (rootE l)]) ∧ Below w.heap.size w w' := by
  have hlen := hl.1
  subst hlen
  by_cases h3 : l.length < 3
  · have HE := Lib.hid (rootE_1 h3)
    have HR := Lib.hid (rootR_no (by rw [rootE_1 h3]; decide))
    go_enter Try.func28, Try.ntmps28
    go_wp2
    refine bodyPost_ret (v := .tuple #[.agg #[.int .i64 0, .int .i64 0, .int .i64 0, .int .i64 0], .int .i64 210]) (by simp [results, Try.results28, go_sem]) rfl ⟨ret_root HR.out HE.out, ?_⟩
    exact (Below.refl _ _).alloc (Nat.le_refl _) _
  · obtain ⟨b, off, rfl, hk1, v1⟩ := isb_at hl (k := l.length - 1) (by omega)
    obtain ⟨b', off', e', hk2, v2⟩ := isb_at hl (k := l.length - 2) (by omega)
    injection e' with e'
    injection e' with e1 e2
    subst e1 e2
    have hx : l.getD (l.length - 1) 0 = l[l.length - 1] := by rw [List.getD_eq_getElem?_getD, List.getElem?_eq_getElem hk1]; rfl
    have hy : l.getD (l.length - 2) 0 = l[l.length - 2] := by rw [List.getD_eq_getElem?_getD, List.getElem?_eq_getElem hk2]; rfl
    generalize l[l.length - 1] = x at hx v1
    generalize l[l.length - 2] = y at hy v2
    have hxb := x.toNat_lt
    have HX := Lib.hid hx
    have HY := Lib.hid hy
    have HV1 := Lib.hid v1
    have HV2 := Lib.hid v2
    have v1 : (w.alloc (.cells #[.int .i64 0, .int .i64 0, .int .i64 0, .int .i64 0] 23)).cell? ⟨b, off + (l.length - 1), none⟩ = some (.int .u8 (x.toNat : Int)) := cell_pure ((Below.refl _ _).alloc (Nat.le_refl _) _) HV1.out
    clear hl hx hy hk1 hk2 v2
    go_enter Try.func28, Try.ntmps28
    go_wp2_with fail
    go_at_call 38
    refine (wide_spec _ _).mono ?_
    rintro e w1 ⟨rfl, rfl⟩
    cases hw : isW (x.toNat : Int) with
    | false =>
      have HE := Lib.hid (rootE_2 HX.out hw)
      have HR := Lib.hid (rootR_no (by rw [rootE_2 HX.out hw]; decide))
      clear hw
      go_wp2
      refine bodyPost_ret (v := .tuple #[.agg #[.int .i64 0, .int .i64 0, .int .i64 0, .int .i64 0], .int .i64 210]) (by simp [results, Try.results28, go_sem]) rfl ⟨ret_root HR.out HE.out, ?_⟩
      exact (Below.refl _ _).alloc (Nat.le_refl _) _
    | true =>
      have HW := Lib.hid hw
      have hx1 : 1 ≤ x.toNat ∧ x.toNat ≤ 8 := by have := isW_iff.1 hw; omega
      have hx2 := hx1.1
      have hx3 := hx1.2
      have v2 : (w.alloc (.cells #[.int .i64 0, .int .i64 0, .int .i64 0, .int .i64 0] 23)).cell? ⟨b, off + (l.length - 2), none⟩ = some (.int .u8 (y.toNat : Int)) := cell_pure ((Below.refl _ _).alloc (Nat.le_refl _) _) HV2.out
      clear hw hx1
      go_wp2_with fail
      go_at_call 40
      refine (runpack_spec y _).mono ?_
      rintro e w1 ⟨rfl, rfl⟩
      have hb := Below.refl (w.alloc (.cells #[.int .i64 0, .int .i64 0, .int .i64 0, .int .i64 0] 23)).heap.size (w.alloc (.cells #[.int .i64 0, .int .i64 0, .int .i64 0, .int .i64 0] 23))
      have HB := Lib.hid (pure_trans ((Below.refl w.heap.size w).alloc (Nat.le_refl _) _) hb)
      have HK := Lib.hid ((Blk.new w 23 #[.int .i64 0, .int .i64 0, .int .i64 0, .int .i64 0]).pure hb)
      have c0 := cell0 HK.out
      have c1 := cell1 HK.out
      have c2 := cell2 HK.out
      have c3 := cell3 HK.out
      have f0 := HK.out.frozen 0
      have f1 := HK.out.frozen 1
      have f2 := HK.out.frozen 2
      have f3 := HK.out.frozen 3
      have v1 := cell_pure HB.out HV1.out
      clear v2 hb
      by_cases hu : unE y = 0
      · have HE4 := Lib.hid (rootE_4 h3 HX.out HY.out HW.out hu)
        rw [hu]
        clear hu
        by_cases hp : (l.length : Int) - 2 - x.toNat < 0
        · have HE := Lib.hid (show rootE l = 210 by rw [HE4.out, if_pos (.inl hp)])
          have HR := Lib.hid (rootR_no (by rw [HE.out]; decide))
          go_wp2
          refine bodyPost_ret (v := .tuple #[.agg #[.int .i64 0, .int .i64 0, .int .i64 0, .int .i64 0], .int .i64 210]) (by simp [results, Try.results28, go_sem]) rfl ⟨ret_root HR.out HE.out, ?_⟩
          first | exact (Below.refl _ _).alloc (Nat.le_refl _) _ | exact ((Below.refl _ _).alloc (Nat.le_refl _) _).alloc (by simp) _
        · have hp0 : 0 ≤ (l.length : Int) - 2 - x.toNat := by omega
          have hxn : (x.toNat == 0) = false := by simp; omega
          by_cases hm : ((l.length : Int) - 2 - x.toNat) % x.toNat = 0
          · have HE := Lib.hid (show rootE l = 0 by rw [HE4.out, if_neg (by omega)])
            have HR := Lib.hid (rootR_ok HX.out HY.out HE.out)
            have hm2 : (((l.length : Int) - 2) % (x.toNat : Int) != 0) = false := by simpa using hm
            clear hm
            go_wp2
            refine bodyPost_ret (v := .tuple #[.agg #[.int .i64 ((l.length : Int) - 2 - x.toNat), .int .i64 ((x.toNat : Nat) : Int), .int .i64 (unT y), .int .i64 (unW y)], .int .i64 0]) (by simp [results, Try.results28, go_sem]) rfl ⟨ret_root HR.out HE.out, ?_⟩
            first | exact (Below.refl _ _).alloc (Nat.le_refl _) _ | exact ((Below.refl _ _).alloc (Nat.le_refl _) _).alloc (by simp) _
          · have HE := Lib.hid (show rootE l = 210 by rw [HE4.out, if_pos (.inr hm)])
            have HR := Lib.hid (rootR_no (by rw [HE.out]; decide))
            have hm2 : (((l.length : Int) - 2) % (x.toNat : Int) != 0) = true := by simpa using hm
            clear hm
            go_wp2
            refine bodyPost_ret (v := .tuple #[.agg #[.int .i64 0, .int .i64 0, .int .i64 0, .int .i64 0], .int .i64 210]) (by simp [results, Try.results28, go_sem]) rfl ⟨ret_root HR.out HE.out, ?_⟩
            first | exact (Below.refl _ _).alloc (Nat.le_refl _) _ | exact ((Below.refl _ _).alloc (Nat.le_refl _) _).alloc (by simp) _
      · have HE := Lib.hid (rootE_3 h3 HX.out HY.out HW.out hu)
        have HR := Lib.hid (rootR_no (by rw [HE.out]; exact hu))
        have hne : (unE y != 0) = true := by simpa using hu
        clear hu
        go_wp2
        refine bodyPost_ret (v := .tuple #[.agg #[.int .i64 0, .int .i64 0, .int .i64 0, .int .i64 0], .int .i64 (unE y)]) (by simp [results, Try.results28, go_sem]) rfl ⟨ret_root HR.out HE.out, ?_⟩
        first | exact (Below.refl _ _).alloc (Nat.le_refl _) _ | exact ((Below.refl _ _).alloc (Nat.le_refl _) _).alloc (by simp) _
end Go.Proofs.Ytmahemllfghdfaa
