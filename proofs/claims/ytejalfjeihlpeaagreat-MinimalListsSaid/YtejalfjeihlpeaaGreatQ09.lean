/-
  Package ref and its reference: Root.
  Package list: the shape of a type; how many elements.
-/
import Derived.Test.YtejalfjeihlpeaaGreatQ08
namespace Go.Proofs.YtejalfjeihlpeaaGreat
open Go.RowKit Go.Acc
theorem ret_root {a b c d e : Int} {r : (Int × Int × Int × Int)} {f : Int} (h : r = (a, b, c, d)) (h' : f = e) :
    Ending.returned (.tuple #[.agg #[.int .i64 a, .int .i64 b, .int .i64 c, .int .i64 d], .int .i64 e]) = .returned (.tuple #[.agg #[.int .i64 r.1, .int .i64 r.2.1, .int .i64 r.2.2.1, .int .i64 r.2.2.2], .int .i64 f]) := by
  subst h h'; rfl
theorem rootR_no {l : List UInt8} (h : rootE l ≠ 0) : rootR l = (0, 0, 0, 0) := if_neg h
theorem rootE_1 {l : List UInt8} (h : l.length < 3) : rootE l = 210 := if_pos (.inl h)
theorem rootE_2 {l : List UInt8} {x : UInt8} (hx : l.getD (l.length - 1) 0 = x) (hw : isW (x.toNat : Int) = false) : rootE l = 210 := by
  unfold rootE
  rw [hx, if_pos (.inr hw)]
theorem rootE_3 {l : List UInt8} {x y : UInt8} (h3 : ¬ l.length < 3) (hx : l.getD (l.length - 1) 0 = x) (hy : l.getD (l.length - 2) 0 = y) (hw : isW (x.toNat : Int) = true) (hu : unE y ≠ 0) : rootE l = unE y := by
  unfold rootE
  rw [hx, hy, if_neg (by rw [hw]; simp; omega), if_pos hu]
theorem rootE_4 {l : List UInt8} {x y : UInt8} (h3 : ¬ l.length < 3) (hx : l.getD (l.length - 1) 0 = x) (hy : l.getD (l.length - 2) 0 = y) (hw : isW (x.toNat : Int) = true) (hu : unE y = 0) :
    rootE l = if (l.length : Int) - 2 - x.toNat < 0 ∨ ((l.length : Int) - 2 - x.toNat) % x.toNat ≠ 0 then 210 else 0 := by
  unfold rootE
  rw [hx, hy, if_neg (by rw [hw]; simp; omega), if_neg (by simpa using hu)]
theorem rootR_ok {l : List UInt8} {x y : UInt8} (hx : l.getD (l.length - 1) 0 = x) (hy : l.getD (l.length - 2) 0 = y) (he : rootE l = 0) : rootR l = ((l.length : Int) - 2 - x.toNat, ((x.toNat : Nat) : Int), unT y, unW y) := by
  unfold rootR
  rw [if_pos he, hx, hy]
set_option maxHeartbeats 1000000 in
theorem root_spec (A : Option Addr) (n c : Nat) (l : List UInt8) (w : World) (hl : IsB w A n l) (hn : n ≤ 9223372036854775807) :
    Calls Tryz.prog 25 #[.slice A n c] w fun e w' => e = .returned (.tuple #[.agg #[.int .i64 (rootR l).1, .int .i64 (rootR l).2.1, .int .i64 (rootR l).2.2.1, .int .i64 (rootR l).2.2.2], .int .i64 (rootE l)]) ∧ Below w.heap.size w w' := by
  have hlen := hl.1
  subst hlen
  by_cases h3 : l.length < 3
  · have HE := Lib.hid (rootE_1 h3)
    have HR := Lib.hid (rootR_no (by rw [rootE_1 h3]; decide))
    go_enter Tryz.func25, Tryz.ntmps25
    go_wp2
    refine bodyPost_ret (v := .tuple #[.agg #[.int .i64 0, .int .i64 0, .int .i64 0, .int .i64 0], .int .i64 210]) (by simp [results, Tryz.results25, go_sem]) rfl ⟨ret_root HR.out HE.out, ?_⟩
    exact (Below.refl _ _).alloc (Nat.le_refl _) _
  · obtain ⟨b, off, rfl, hk1, v1⟩ := isb_at hl (k := l.length - 1) (by omega)
    obtain ⟨b', off', e', hk2, v2⟩ := isb_at hl (k := l.length - 2) (by omega)
    injection e' with e'
    injection e' with e1 e2
    subst e1 e2
    have hx : l.getD (l.length - 1) 0 = l[l.length - 1] := by rw [List.getD_eq_getElem?_getD, List.getElem?_eq_getElem hk1]; rfl
    have hy : l.getD (l.length - 2) 0 = l[l.length - 2] := by rw [List.getD_eq_getElem?_getD, List.getElem?_eq_getElem hk2]; rfl
    generalize l[l.length - 1] = x at hx v1
    generalize l[l.length - 2] = y at hy v2
    have hxb := x.toNat_lt
    have HX := Lib.hid hx
    have HY := Lib.hid hy
    have HV1 := Lib.hid v1
    have HV2 := Lib.hid v2
    have v1 : (w.alloc (.cells #[.int .i64 0, .int .i64 0, .int .i64 0, .int .i64 0] 48)).cell? ⟨b, off + (l.length - 1), none⟩ = some (.int .u8 (x.toNat : Int)) := cell_pure ((Below.refl _ _).alloc (Nat.le_refl _) _) HV1.out
    clear hl hx hy hk1 hk2 v2
    go_enter Tryz.func25, Tryz.ntmps25
    go_wp2_with fail
    go_at_call 49
    refine (iswidth_spec _ _).mono ?_
    rintro e w1 ⟨rfl, rfl⟩
    cases hw : isW (x.toNat : Int) with
    | false =>
      have HE := Lib.hid (rootE_2 HX.out hw)
      have HR := Lib.hid (rootR_no (by rw [rootE_2 HX.out hw]; decide))
      clear hw
      go_wp2
      refine bodyPost_ret (v := .tuple #[.agg #[.int .i64 0, .int .i64 0, .int .i64 0, .int .i64 0], .int .i64 210]) (by simp [results, Tryz.results25, go_sem]) rfl ⟨ret_root HR.out HE.out, ?_⟩
      exact (Below.refl _ _).alloc (Nat.le_refl _) _
    | true =>
      have HW := Lib.hid hw
      have hx1 : 1 ≤ x.toNat ∧ x.toNat ≤ 8 := by have := isW_iff.1 hw; omega
      have hx2 := hx1.1
      have hx3 := hx1.2
      have v2 : (w.alloc (.cells #[.int .i64 0, .int .i64 0, .int .i64 0, .int .i64 0] 48)).cell? ⟨b, off + (l.length - 2), none⟩ = some (.int .u8 (y.toNat : Int)) := cell_pure ((Below.refl _ _).alloc (Nat.le_refl _) _) HV2.out
      clear hw hx1
      go_wp2_with fail
      go_at_call 50
      refine (unpack_spec y _).mono ?_
      rintro e w1 ⟨rfl, hb⟩
      have HB := Lib.hid (pure_trans ((Below.refl w.heap.size w).alloc (Nat.le_refl _) _) hb)
      have HK := Lib.hid ((Blk.new w 48 #[.int .i64 0, .int .i64 0, .int .i64 0, .int .i64 0]).pure hb)
      have c0 := cell0 HK.out
      have c1 := cell1 HK.out
      have c2 := cell2 HK.out
      have c3 := cell3 HK.out
      have f0 := HK.out.frozen 0
      have f1 := HK.out.frozen 1
      have f2 := HK.out.frozen 2
      have f3 := HK.out.frozen 3
      have v1 := cell_pure HB.out HV1.out
      clear v2 hb
      by_cases hu : unE y = 0
      · have HE4 := Lib.hid (rootE_4 h3 HX.out HY.out HW.out hu)
        rw [hu]
        clear hu
        by_cases hp : (l.length : Int) - 2 - x.toNat < 0
        · have HE := Lib.hid (show rootE l = 210 by rw [HE4.out, if_pos (.inl hp)])
          have HR := Lib.hid (rootR_no (by rw [HE.out]; decide))
          go_wp2
          refine bodyPost_ret (v := .tuple #[.agg #[.int .i64 0, .int .i64 0, .int .i64 0, .int .i64 0], .int .i64 210]) (by simp [results, Tryz.results25, go_sem, c0, c1, c2, c3]) rfl ⟨ret_root HR.out HE.out, ?_⟩
          exact (((HB.out.setCell (Nat.le_refl _) _).setCell (Nat.le_refl _) _).setCell (Nat.le_refl _) _).setCell (Nat.le_refl _) _
        · have hp0 : 0 ≤ (l.length : Int) - 2 - x.toNat := by omega
          have hxn : (x.toNat == 0) = false := by simp; omega
          by_cases hm : ((l.length : Int) - 2 - x.toNat) % x.toNat = 0
          · have HE := Lib.hid (show rootE l = 0 by rw [HE4.out, if_neg (by omega)])
            have HR := Lib.hid (rootR_ok HX.out HY.out HE.out)
            have hm2 : (((l.length : Int) - 2) % (x.toNat : Int) != 0) = false := by simpa using hm
            clear hm
            go_wp2
            refine bodyPost_ret (v := .tuple #[.agg #[.int .i64 ((l.length : Int) - 2 - x.toNat), .int .i64 ((x.toNat : Nat) : Int), .int .i64 (unT y), .int .i64 (unW y)], .int .i64 0]) (by simp [results, Tryz.results25, go_sem, c0, c1, c2, c3]) rfl ⟨ret_root HR.out HE.out, ?_⟩
            exact (((HB.out.setCell (Nat.le_refl _) _).setCell (Nat.le_refl _) _).setCell (Nat.le_refl _) _).setCell (Nat.le_refl _) _
          · have HE := Lib.hid (show rootE l = 210 by rw [HE4.out, if_pos (.inr hm)])
            have HR := Lib.hid (rootR_no (by rw [HE.out]; decide))
            have hm2 : (((l.length : Int) - 2) % (x.toNat : Int) != 0) = true := by simpa using hm
            clear hm
            go_wp2
            refine bodyPost_ret (v := .tuple #[.agg #[.int .i64 0, .int .i64 0, .int .i64 0, .int .i64 0], .int .i64 210]) (by simp [results, Tryz.results25, go_sem, c0, c1, c2, c3]) rfl ⟨ret_root HR.out HE.out, ?_⟩
            exact (((HB.out.setCell (Nat.le_refl _) _).setCell (Nat.le_refl _) _).setCell (Nat.le_refl _) _).setCell (Nat.le_refl _) _
      · have HE := Lib.hid (rootE_3 h3 HX.out HY.out HW.out hu)
        have HR := Lib.hid (rootR_no (by rw [HE.out]; exact hu))
        have hne : (unE y != 0) = true := by simpa using hu
        clear hu
        go_wp2
        refine bodyPost_ret (v := .tuple #[.agg #[.int .i64 0, .int .i64 0, .int .i64 0, .int .i64 0], .int .i64 (unE y)]) (by simp [results, Tryz.results25, go_sem, c0, c1, c2, c3]) rfl ⟨ret_root HR.out HE.out, ?_⟩
        exact (((HB.out.setCell (Nat.le_refl _) _).setCell (Nat.le_refl _) _).setCell (Nat.le_refl _) _).setCell (Nat.le_refl _) _
set_option maxHeartbeats 1000000 in
theorem rroot_spec (A : Option Addr) (n c : Nat) (l : List UInt8) (w : World) (hl : IsB w A n l) (hn : n ≤ 9223372036854775807) :
    Calls Tryz.prog 32 #[.slice A n c] w fun e w' => e = .returned (.tuple #[.agg #[.int .i64 (rootR l).1, .int .i64 (rootR l).2.1, .int .i64 (rootR l).2.2.1, .int .i64 (rootR l).2.2.2], .int .i64 (rootE l)]) ∧ Below w.heap.size w w' := by
  have hlen := hl.1
  subst hlen
  by_cases h3 : l.length < 3
  · have HE := Lib.hid (rootE_1 h3)
    have HR := Lib.hid (rootR_no (by rw [rootE_1 h3]; decide))
    go_enter Tryz.func32, Tryz.ntmps32
    go_wp2
    refine bodyPost_ret (v := .tuple #[.agg #[.int .i64 0, .int .i64 0, .int .i64 0, .int .i64 0], .int .i64 210]) (by simp [results, Tryz.results32, go_sem]) rfl ⟨ret_root HR.out HE.out, ?_⟩
    exact (Below.refl _ _).alloc (Nat.le_refl _) _
  · obtain ⟨b, off, rfl, hk1, v1⟩ := isb_at hl (k := l.length - 1) (by omega)
    obtain ⟨b', off', e', hk2, v2⟩ := isb_at hl (k := l.length - 2) (by omega)
    injection e' with e'
    injection e' with e1 e2
    subst e1 e2
    have hx : l.getD (l.length - 1) 0 = l[l.length - 1] := by rw [List.getD_eq_getElem?_getD, List.getElem?_eq_getElem hk1]; rfl
    have hy : l.getD (l.length - 2) 0 = l[l.length - 2] := by rw [List.getD_eq_getElem?_getD, List.getElem?_eq_getElem hk2]; rfl
    generalize l[l.length - 1] = x at hx v1
    generalize l[l.length - 2] = y at hy v2
    have hxb := x.toNat_lt
    have HX := Lib.hid hx
    have HY := Lib.hid hy
    have HV1 := Lib.hid v1
    have HV2 := Lib.hid v2
    have v1 : (w.alloc (.cells #[.int .i64 0, .int .i64 0, .int .i64 0, .int .i64 0] 48)).cell? ⟨b, off + (l.length - 1), none⟩ = some (.int .u8 (x.toNat : Int)) := cell_pure ((Below.refl _ _).alloc (Nat.le_refl _) _) HV1.out
    clear hl hx hy hk1 hk2 v2
    go_enter Tryz.func32, Tryz.ntmps32
    go_wp2_with fail
    go_at_call 60
    refine (wide_spec _ _).mono ?_
    rintro e w1 ⟨rfl, rfl⟩
    cases hw : isW (x.toNat : Int) with
    | false =>
      have HE := Lib.hid (rootE_2 HX.out hw)
      have HR := Lib.hid (rootR_no (by rw [rootE_2 HX.out hw]; decide))
      clear hw
      go_wp2
      refine bodyPost_ret (v := .tuple #[.agg #[.int .i64 0, .int .i64 0, .int .i64 0, .int .i64 0], .int .i64 210]) (by simp [results, Tryz.results32, go_sem]) rfl ⟨ret_root HR.out HE.out, ?_⟩
      exact (Below.refl _ _).alloc (Nat.le_refl _) _
    | true =>
      have HW := Lib.hid hw
      have hx1 : 1 ≤ x.toNat ∧ x.toNat ≤ 8 := by have := isW_iff.1 hw; omega
      have hx2 := hx1.1
      have hx3 := hx1.2
      have v2 : (w.alloc (.cells #[.int .i64 0, .int .i64 0, .int .i64 0, .int .i64 0] 48)).cell? ⟨b, off + (l.length - 2), none⟩ = some (.int .u8 (y.toNat : Int)) := cell_pure ((Below.refl _ _).alloc (Nat.le_refl _) _) HV2.out
      clear hw hx1
      go_wp2_with fail
      go_at_call 61
      refine (runpack_spec y _).mono ?_
      rintro e w1 ⟨rfl, rfl⟩
      have hb := Below.refl (w.alloc (.cells #[.int .i64 0, .int .i64 0, .int .i64 0, .int .i64 0] 48)).heap.size (w.alloc (.cells #[.int .i64 0, .int .i64 0, .int .i64 0, .int .i64 0] 48))
      have HB := Lib.hid (pure_trans ((Below.refl w.heap.size w).alloc (Nat.le_refl _) _) hb)
      have HK := Lib.hid ((Blk.new w 48 #[.int .i64 0, .int .i64 0, .int .i64 0, .int .i64 0]).pure hb)
      have c0 := cell0 HK.out
      have c1 := cell1 HK.out
      have c2 := cell2 HK.out
      have c3 := cell3 HK.out
      have f0 := HK.out.frozen 0
      have f1 := HK.out.frozen 1
      have f2 := HK.out.frozen 2
      have f3 := HK.out.frozen 3
      have v1 := cell_pure HB.out HV1.out
      clear v2 hb
      by_cases hu : unE y = 0
      · have HE4 := Lib.hid (rootE_4 h3 HX.out HY.out HW.out hu)
        rw [hu]
        clear hu
        by_cases hp : (l.length : Int) - 2 - x.toNat < 0
        · have HE := Lib.hid (show rootE l = 210 by rw [HE4.out, if_pos (.inl hp)])
          have HR := Lib.hid (rootR_no (by rw [HE.out]; decide))
          go_wp2
          refine bodyPost_ret (v := .tuple #[.agg #[.int .i64 0, .int .i64 0, .int .i64 0, .int .i64 0], .int .i64 210]) (by simp [results, Tryz.results32, go_sem]) rfl ⟨ret_root HR.out HE.out, ?_⟩
          first | exact (Below.refl _ _).alloc (Nat.le_refl _) _ | exact ((Below.refl _ _).alloc (Nat.le_refl _) _).alloc (by simp) _
        · have hp0 : 0 ≤ (l.length : Int) - 2 - x.toNat := by omega
          have hxn : (x.toNat == 0) = false := by simp; omega
          by_cases hm : ((l.length : Int) - 2 - x.toNat) % x.toNat = 0
          · have HE := Lib.hid (show rootE l = 0 by rw [HE4.out, if_neg (by omega)])
            have HR := Lib.hid (rootR_ok HX.out HY.out HE.out)
            have hm2 : (((l.length : Int) - 2) % (x.toNat : Int) != 0) = false := by simpa using hm
            clear hm
            go_wp2
            refine bodyPost_ret (v := .tuple #[.agg #[.int .i64 ((l.length : Int) - 2 - x.toNat), .int .i64 ((x.toNat : Nat) : Int), .int .i64 (unT y), .int .i64 (unW y)], .int .i64 0]) (by simp [results, Tryz.results32, go_sem]) rfl ⟨ret_root HR.out HE.out, ?_⟩
            first | exact (Below.refl _ _).alloc (Nat.le_refl _) _ | exact ((Below.refl _ _).alloc (Nat.le_refl _) _).alloc (by simp) _
          · have HE := Lib.hid (show rootE l = 210 by rw [HE4.out, if_pos (.inr hm)])
            have HR := Lib.hid (rootR_no (by rw [HE.out]; decide))
            have hm2 : (((l.length : Int) - 2) % (x.toNat : Int) != 0) = true := by simpa using hm
            clear hm
            go_wp2
            refine bodyPost_ret (v := .tuple #[.agg #[.int .i64 0, .int .i64 0, .int .i64 0, .int .i64 0], .int .i64 210]) (by simp [results, Tryz.results32, go_sem]) rfl ⟨ret_root HR.out HE.out, ?_⟩
            first | exact (Below.refl _ _).alloc (Nat.le_refl _) _ | exact ((Below.refl _ _).alloc (Nat.le_refl _) _).alloc (by simp) _
      · have HE := Lib.hid (rootE_3 h3 HX.out HY.out HW.out hu)
        have HR := Lib.hid (rootR_no (by rw [HE.out]; exact hu))
        have hne : (unE y != 0) = true := by simpa using hu
        clear hu
        go_wp2
        refine bodyPost_ret (v := .tuple #[.agg #[.int .i64 0, .int .i64 0, .int .i64 0, .int .i64 0], .int .i64 (unE y)]) (by simp [results, Tryz.results32, go_sem]) rfl ⟨ret_root HR.out HE.out, ?_⟩
        first | exact (Below.refl _ _).alloc (Nat.le_refl _) _ | exact ((Below.refl _ _).alloc (Nat.le_refl _) _).alloc (by simp) _
end Go.Proofs.YtejalfjeihlpeaaGreat

namespace Go.Proofs.YtejalfjeihlpeaaGreat
open Go.RowKit Go.Acc
theorem shindex {t : Int} (ht : isT t = true) : ∀ w, (Instr.index 153 (.agg shS) (.int .i64 t)).run Tryz.prog w = .ok (.agg (shR t.toNat).toArray) w := by
  have h : ∀ n : Fin 37, ∀ w, (Instr.index 153 (.agg shS) (.int .i64 ((n.val : Nat) : Int))).run Tryz.prog w = .ok (.agg (shR ((n.val : Nat) : Int).toNat).toArray) w := by
    intro n
    rcases n with ⟨n, hn⟩
    have : n = 0 ∨ n = 1 ∨ n = 2 ∨ n = 3 ∨ n = 4 ∨ n = 5 ∨ n = 6 ∨ n = 7 ∨ n = 8 ∨ n = 9 ∨ n = 10 ∨ n = 11 ∨ n = 12 ∨ n = 13 ∨ n = 14 ∨ n = 15 ∨ n = 16 ∨ n = 17 ∨ n = 18 ∨ n = 19 ∨ n = 20 ∨ n = 21 ∨ n = 22 ∨ n = 23 ∨ n = 24 ∨ n = 25 ∨ n = 26 ∨ n = 27 ∨ n = 28 ∨ n = 29 ∨ n = 30 ∨ n = 31 ∨ n = 32 ∨ n = 33 ∨ n = 34 ∨ n = 35 ∨ n = 36 := by omega
    rcases this with rfl | rfl | rfl | rfl | rfl | rfl | rfl | rfl | rfl | rfl | rfl | rfl | rfl | rfl | rfl | rfl | rfl | rfl | rfl | rfl | rfl | rfl | rfl | rfl | rfl | rfl | rfl | rfl | rfl | rfl | rfl | rfl | rfl | rfl | rfl | rfl | rfl
    all_goals
      intro w
      kernel_rfl
  exact t37_all (p := fun t => ∀ w, (Instr.index 153 (.agg shS) (.int .i64 t)).run Tryz.prog w = .ok (.agg (shR t.toNat).toArray) w) h ht
/-- Has the type elements; have they tags; how many numbers stand ahead. -/
def isL (t : Int) : Bool := decide (t = 9 ∨ t = 10) || vecT t
def tagT (t : Int) : Bool := decide (t = 9 ∨ t = 10)
def aheadT (t : Int) : Nat := if t = 9 then 3 else if 0 < manyT t then 0 else 1
def tgs (t : Int) : Nat := if tagT t = true then 1 else 0
theorem shcases {t : Int} (ht : isT t = true) :
    (isL t = false ∧ shR t.toNat = [.int .i64 0, .nilFunc, .nilFunc, .int .i64 0]) ∨
    (isL t = true ∧ 0 < manyT t ∧ manyT t ≤ 4 ∧ tagT t = false ∧ aheadT t = 0 ∧ shR t.toNat = [.int .i64 0, fnV 145, fnV 146, .int .i64 0]) ∨
    (isL t = true ∧ manyT t = 0 ∧ (aheadT t = 1 ∨ aheadT t = 3) ∧ shR t.toNat = [.int .i64 (aheadT t : Int), fnV 147, (if tagT t = true then fnV 148 else fnV 146), .int .i64 (tgs t : Int)]) := by
  have hb := isT_iff.1 ht
  have : t = 0 ∨ t = 1 ∨ t = 2 ∨ t = 3 ∨ t = 4 ∨ t = 5 ∨ t = 6 ∨ t = 7 ∨ t = 8 ∨ t = 9 ∨ t = 10 ∨ t = 11 ∨ t = 12 ∨ t = 13 ∨ t = 14 ∨ t = 15 ∨ t = 16 ∨ t = 17 ∨ t = 18 ∨ t = 19 ∨ t = 20 ∨ t = 21 ∨ t = 22 ∨ t = 23 ∨ t = 24 ∨ t = 25 ∨ t = 26 ∨ t = 27 ∨ t = 28 ∨ t = 29 ∨ t = 30 ∨ t = 31 ∨ t = 32 ∨ t = 33 ∨ t = 34 ∨ t = 35 ∨ t = 36 := by omega
  clear hb ht
  rcases this with rfl | rfl | rfl | rfl | rfl | rfl | rfl | rfl | rfl | rfl | rfl | rfl | rfl | rfl | rfl | rfl | rfl | rfl | rfl | rfl | rfl | rfl | rfl | rfl | rfl | rfl | rfl | rfl | rfl | rfl | rfl | rfl | rfl | rfl | rfl | rfl | rfl
  all_goals first
    | exact .inl ⟨by decide, rfl⟩
    | exact .inr (.inl ⟨by decide, by decide, by decide, by decide, by decide, rfl⟩)
    | exact .inr (.inr ⟨by decide, by decide, by decide, rfl⟩)
set_option maxRecDepth 100000 in
set_option maxHeartbeats 400000 in
theorem fixed_spec (A : Option Addr) (n c : Nat) (p q t v a : Int) (M : Nat) (w : World) (hm : manyT t = M) (hM : M ≤ 4) :
    Calls Tryz.prog 145 #[.slice A n c, .agg #[.int .i64 p, .int .i64 q, .int .i64 t, .int .i64 v], .int .i64 a] w fun e w' => e = .returned (.int .u64 (M : Int)) ∧ Below w.heap.size w w' := by
  have HB := Lib.hid ((Below.refl w.heap.size w).alloc (Nat.le_refl _) (.cells #[.int .i64 p, .int .i64 q, .int .i64 t, .int .i64 v] 48))
  have HM := Lib.hid hm
  clear hm
  go_enter Tryz.func145, Tryz.ntmps145
  go_wp2_with fail
  go_at_call 144
  refine (elem_spec t _).mono ?_
  rw [HM.out]
  rintro e w1 ⟨rfl, hb⟩
  replace HB := Lib.hid (pure_below HB.out hb)
  clear hb
  have hw : IntKind.u64.wrap (M : Int) = M := u64_in _ (by omega)
  go_wp2
  go_ret
  exact ⟨rfl, HB.out⟩
set_option maxRecDepth 100000 in
set_option maxHeartbeats 400000 in
theorem length_spec (A : Option Addr) (n c : Nat) (p q t : Int) (v a : Nat) (l : List UInt8) (w : World) (h : IsB w A n l) (hc : n ≤ c) (hn : n ≤ 1099511627776) (ha : a ≤ 1099511627776) (hv : v ≤ 8) :
    Calls Tryz.prog 147 #[.slice A n c, .agg #[.int .i64 p, .int .i64 q, .int .i64 t, .int .i64 v], .int .i64 a] w fun e w' => e = .returned (.int .u64 (loadU l ((a : Int) - v) v : Nat)) ∧ Below w.heap.size w w' := by
  have HL := Lib.hid (h.alloc (.cells #[.int .i64 p, .int .i64 q, .int .i64 t, .int .i64 v] 48))
  have HB := Lib.hid ((Below.refl w.heap.size w).alloc (Nat.le_refl _) (.cells #[.int .i64 p, .int .i64 q, .int .i64 t, .int .i64 v] 48))
  clear h
  go_enter Tryz.func147, Tryz.ntmps147
  go_wp2_with fail
  go_at_call 87
  refine (load_spec A n c ((a : Int) - v) v l _ HL.out hc (by omega)).mono ?_
  rintro e w1 ⟨rfl, hb⟩
  replace HB := Lib.hid (pure_below HB.out hb)
  clear hb
  go_wp2
  go_ret
  exact ⟨rfl, HB.out⟩
theorem length_is (A : Option Addr) (n c : Nat) (p q t : Int) (v a U : Nat) (l : List UInt8) (w : World) (h : IsB w A n l) (hc : n ≤ c) (hn : n ≤ 1099511627776) (ha : a ≤ 1099511627776) (hv : v ≤ 8) (hU : loadU l ((a : Int) - v) v = U) :
    Calls Tryz.prog 147 #[.slice A n c, .agg #[.int .i64 p, .int .i64 q, .int .i64 t, .int .i64 v], .int .i64 a] w fun e w' => e = .returned (.int .u64 (U : Int)) ∧ Below w.heap.size w w' := by
  subst hU
  exact length_spec A n c p q t v a l w h hc hn ha hv
end Go.Proofs.YtejalfjeihlpeaaGreat
