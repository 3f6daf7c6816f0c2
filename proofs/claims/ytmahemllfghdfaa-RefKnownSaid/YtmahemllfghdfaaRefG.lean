/-
  Package ref: the property RefTells.
-/
import Derived.Test.YtmahemllfghdfaaRefRow
import Derived.Test.YtmahemllfghdfaaCut
namespace Go.Proofs.Ytmahemllfghdfaa
open Go.RowKit Go.Acc
theorem cell8 {w : World} {g : Nat} {t : TypeId} {p q t' v p2 q2 t2 v2 : Value} (h : Blk w g t #[p, q, t', v, p2, q2, t2, v2]) :
    w.cell? ⟨g, 0, none⟩ = some p ∧ w.cell? ⟨g, 1, none⟩ = some q ∧ w.cell? ⟨g, 2, none⟩ = some t' ∧ w.cell? ⟨g, 3, none⟩ = some v ∧ w.cell? ⟨g, 4, none⟩ = some p2 ∧ w.cell? ⟨g, 5, none⟩ = some q2 ∧ w.cell? ⟨g, 6, none⟩ = some t2 ∧ w.cell? ⟨g, 7, none⟩ = some v2 :=
  ⟨h.cell 0, h.cell 1, h.cell 2, h.cell 3, h.cell 4, h.cell 5, h.cell 6, h.cell 7⟩
theorem is_drew {α : Type} {f : α → List Value} {w : World} {A : Option Addr} {n : Nat} {l : List α} (h : Is f w A n l) : Is f w.drew A n l := h
theorem cell44 {w : World} {g g' : Nat} {t : TypeId} {p q t' v p2 q2 t2 v2 : Value} (h : Blk w g t #[p, q, t', v]) (h' : Blk w g' t #[p2, q2, t2, v2]) :
    w.cell? ⟨g, 0, none⟩ = some p ∧ w.cell? ⟨g, 1, none⟩ = some q ∧ w.cell? ⟨g, 2, none⟩ = some t' ∧ w.cell? ⟨g, 3, none⟩ = some v ∧ w.cell? ⟨g', 0, none⟩ = some p2 ∧ w.cell? ⟨g', 1, none⟩ = some q2 ∧ w.cell? ⟨g', 2, none⟩ = some t2 ∧ w.cell? ⟨g', 3, none⟩ = some v2 :=
  ⟨h.cell 0, h.cell 1, h.cell 2, h.cell 3, h'.cell 0, h'.cell 1, h'.cell 2, h'.cell 3⟩
set_option maxHeartbeats 4000000 in
theorem reftells_spec (A : Option Addr) (n c : Nat) (p q t v p' q' t' v' m : Int) (l : List UInt8) (w : World) (h : IsB w A n l) (hc : n ≤ c) :
    Calls Try.prog 11 #[.slice A n c, .agg #[.int .i64 p, .int .i64 q, .int .i64 t, .int .i64 v, .int .i64 p', .int .i64 q', .int .i64 t', .int .i64 v'], .int .i64 m] w fun e w' => e = .returned (.bool true) ∧ Below w.heap.size w w' := by
  obtain ⟨M, hMn, hMB, hmin, hcut⟩ := cut_facts A n c 600 600 rfl hc
  have HR := Lib.hid h
  clear h
  have HM := Lib.hid ((HR.out.take bc_len (k := M) (by omega)).alloc (.cells #[.int .i64 p, .int .i64 q, .int .i64 t, .int .i64 v, .int .i64 p', .int .i64 q', .int .i64 t', .int .i64 v'] 37))
  have HB := Lib.hid ((Below.refl w.heap.size w).alloc (Nat.le_refl _) (.cells #[.int .i64 p, .int .i64 q, .int .i64 t, .int .i64 v, .int .i64 p', .int .i64 q', .int .i64 t', .int .i64 v'] 37))
  have HJ := Lib.hid (Blk.new w 37 #[.int .i64 p, .int .i64 q, .int .i64 t, .int .i64 v, .int .i64 p', .int .i64 q', .int .i64 t', .int .i64 v'])
  clear HR
  go_enter Try.func11, Try.ntmps11
  go_wp2_with fail
  go_at_call 5
  refine (copyb_spec A (M) c (l.take (M)) _ HM.out (by omega)).mono ?_
  rintro e w1 ⟨A1, n1, c1, rfl, hO1, hb1⟩
  obtain rfl : M = n1 := by rw [← hO1.1, HM.out.1]
  have HB := Lib.hid (pure_below HB.out hb1)
  have HI := Lib.hid hO1.is
  have HM := Lib.hid (HM.out.pure hb1)
  have HJ := Lib.hid (HJ.out.pure hb1)
  have hc1 := hO1.cap.1
  have hlt := HJ.out.lt
  obtain ⟨a0, a1, a2, a3, a4, a5, a6, a7⟩ := cell8 HJ.out
  clear hO1 hb1
  go_wp2_with fail
  go_region
  · have HX : Hid (Blk ((w1.alloc (.cells #[.int .i64 p, .int .i64 q, .int .i64 t, .int .i64 v] 23)).alloc (.cells #[.int .i64 p', .int .i64 q', .int .i64 t', .int .i64 v'] 23)).drew (w1.heap.size) 23 #[.int .i64 p, .int .i64 q, .int .i64 t, .int .i64 v]) := Lib.hid ((Blk.new_ (by rfl) _ _).alloc _).drew
    have HY : Hid (Blk ((w1.alloc (.cells #[.int .i64 p, .int .i64 q, .int .i64 t, .int .i64 v] 23)).alloc (.cells #[.int .i64 p', .int .i64 q', .int .i64 t', .int .i64 v'] 23)).drew (w1.heap.size + 1) 23 #[.int .i64 p', .int .i64 q', .int .i64 t', .int .i64 v']) := Lib.hid (Blk.new_ (by simp) _ _).drew
    have HI := Lib.hid (is_drew ((HI.out.alloc (.cells #[.int .i64 p, .int .i64 q, .int .i64 t, .int .i64 v] 23)).alloc (.cells #[.int .i64 p', .int .i64 q', .int .i64 t', .int .i64 v'] 23)))
    have HM := Lib.hid (is_drew ((HM.out.alloc (.cells #[.int .i64 p, .int .i64 q, .int .i64 t, .int .i64 v] 23)).alloc (.cells #[.int .i64 p', .int .i64 q', .int .i64 t', .int .i64 v'] 23)))
    have HB := Lib.hid (((HB.out.alloc HB.out.size (.cells #[.int .i64 p, .int .i64 q, .int .i64 t, .int .i64 v] 23)).alloc (HB.out.alloc HB.out.size (.cells #[.int .i64 p, .int .i64 q, .int .i64 t, .int .i64 v] 23)).size (.cells #[.int .i64 p', .int .i64 q', .int .i64 t', .int .i64 v'] 23)).drew)
    clear a0 a1 a2 a3 a4 a5 a6 a7 hlt HJ
    go_wp2_with fail
    go_at_call 7
    refine (target_spec A1 (M) c1 p q t v _ _ HI.out hc1 (by omega)).mono ?_
    rintro e w2 ⟨rfl, hb⟩
    have HB := Lib.hid (pure_below HB.out hb); have HI := Lib.hid (HI.out.pure hb); have HM := Lib.hid (HM.out.pure hb); have HX := Lib.hid (HX.out.pure hb); have HY := Lib.hid (HY.out.pure hb); clear hb
    have x0 := cell0 HX.out
    have x1 := cell1 HX.out
    have x2 := cell2 HX.out
    have x3 := cell3 HX.out
    go_wp2_with fail
    go_at_call 21
    refine (rtarget_spec A1 (M) c1 p q t v _ _ HI.out (by omega)).mono ?_
    rintro e w3 ⟨rfl, hb⟩
    clear x0 x1 x2 x3
    have HB := Lib.hid (pure_below HB.out hb); have HI := Lib.hid (HI.out.pure hb); have HM := Lib.hid (HM.out.pure hb); have HX := Lib.hid (HX.out.pure hb); have HY := Lib.hid (HY.out.pure hb); clear hb
    go_wp2_with fail
    have HB := Lib.hid HB.out.drew
    have HI := Lib.hid (is_drew HI.out)
    have HM := Lib.hid (is_drew HM.out)
    have HX := Lib.hid HX.out.drew
    have HY := Lib.hid HY.out.drew
    go_region_held3 (fun w' => w'.cell? ⟨w1.heap.size, 0, none⟩ = some (.int .i64 p) ∧ w'.cell? ⟨w1.heap.size, 1, none⟩ = some (.int .i64 q) ∧ w'.cell? ⟨w1.heap.size, 2, none⟩ = some (.int .i64 t) ∧ w'.cell? ⟨w1.heap.size, 3, none⟩ = some (.int .i64 v) ∧ w'.cell? ⟨w1.heap.size + 1, 0, none⟩ = some (.int .i64 p') ∧ w'.cell? ⟨w1.heap.size + 1, 1, none⟩ = some (.int .i64 q') ∧ w'.cell? ⟨w1.heap.size + 1, 2, none⟩ = some (.int .i64 t') ∧ w'.cell? ⟨w1.heap.size + 1, 3, none⟩ = some (.int .i64 v')) (first | assumption | exact cell44 HX.out HY.out)
      (first
      | (go_at_call 14; refine (may_spec A1 (M) c1 p q t v _ (by omega)).mono ?_; rintro e w4 ⟨rfl, hb⟩; have HB := Lib.hid (pure_below HB.out hb); have HI := Lib.hid (HI.out.pure hb); have HM := Lib.hid (HM.out.pure hb); have HX := Lib.hid (HX.out.pure hb); have HY := Lib.hid (HY.out.pure hb); clear hb)
      | (go_at_call 22; refine (rmay_spec A1 (M) c1 p q t v _ (by omega)).mono ?_; rintro e w4 ⟨rfl, hb⟩; have HB := Lib.hid (pure_below HB.out hb); have HI := Lib.hid (HI.out.pure hb); have HM := Lib.hid (HM.out.pure hb); have HX := Lib.hid (HX.out.pure hb); have HY := Lib.hid (HY.out.pure hb); clear hb)
      | (go_at_call 6; refine (same_spec p q t v p' q' t' v' _).mono ?_; rintro e w4 ⟨rfl, hb⟩; have HB := Lib.hid (pure_below HB.out hb); have HI := Lib.hid (HI.out.pure hb); have HM := Lib.hid (HM.out.pure hb); have HX := Lib.hid (HX.out.pure hb); have HY := Lib.hid (HY.out.pure hb); clear hb)
      | (go_at_call 23; refine (rsame_spec p q t v p' q' t' v' _).mono ?_; rintro e w4 ⟨rfl, hb⟩; have HB := Lib.hid (pure_below HB.out hb); have HI := Lib.hid (HI.out.pure hb); have HM := Lib.hid (HM.out.pure hb); have HX := Lib.hid (HX.out.pure hb); have HY := Lib.hid (HY.out.pure hb); clear hb)
      | (go_at_call 8; refine (kind_spec p q t v _).mono ?_; rintro e w4 ⟨rfl, hb⟩; have HB := Lib.hid (pure_below HB.out hb); have HI := Lib.hid (HI.out.pure hb); have HM := Lib.hid (HM.out.pure hb); have HX := Lib.hid (HX.out.pure hb); have HY := Lib.hid (HY.out.pure hb); clear hb)
      | (go_at_call 24; refine (rkind_spec p q t v _).mono ?_; rintro e w4 ⟨rfl, hb⟩; have HB := Lib.hid (pure_below HB.out hb); have HI := Lib.hid (HI.out.pure hb); have HM := Lib.hid (HM.out.pure hb); have HX := Lib.hid (HX.out.pure hb); have HY := Lib.hid (HY.out.pure hb); clear hb)
      | (go_at_call 20; refine (inside_spec A1 (M) c1 p m _ (by omega)).mono ?_; rintro e w4 ⟨rfl, rfl⟩)
      | (go_at_call 25; refine (rinside_spec A1 (M) c1 p m _ (by omega)).mono ?_; rintro e w4 ⟨rfl, rfl⟩)
      | (go_at_call 26; refine (eqb_spec A1 A (M) (M) c1 c _ _ _ HI.out HM.out).mono ?_; rw [eqB_self]; rintro e w4 ⟨rfl, rfl⟩)
      | (go_at_call 9; refine (refworks_spec _).mono ?_; rintro e w4 ⟨rfl, hb⟩; have HB := Lib.hid (pure_below HB.out hb); have HI := Lib.hid (HI.out.pure hb); have HM := Lib.hid (HM.out.pure hb); have HX := Lib.hid (HX.out.pure hb); have HY := Lib.hid (HY.out.pure hb); clear hb))
    go_wp2
    go_ret
    exact ⟨rfl, HB.out⟩
  · have HX : Hid (Blk ((w1.alloc (.cells #[.int .i64 p', .int .i64 q', .int .i64 t', .int .i64 v'] 23)).alloc (.cells #[.int .i64 p, .int .i64 q, .int .i64 t, .int .i64 v] 23)).drew (w1.heap.size + 1) 23 #[.int .i64 p, .int .i64 q, .int .i64 t, .int .i64 v]) := Lib.hid (Blk.new_ (by simp) _ _).drew
    have HY : Hid (Blk ((w1.alloc (.cells #[.int .i64 p', .int .i64 q', .int .i64 t', .int .i64 v'] 23)).alloc (.cells #[.int .i64 p, .int .i64 q, .int .i64 t, .int .i64 v] 23)).drew (w1.heap.size) 23 #[.int .i64 p', .int .i64 q', .int .i64 t', .int .i64 v']) := Lib.hid ((Blk.new_ (by rfl) _ _).alloc _).drew
    have HI := Lib.hid (is_drew ((HI.out.alloc (.cells #[.int .i64 p', .int .i64 q', .int .i64 t', .int .i64 v'] 23)).alloc (.cells #[.int .i64 p, .int .i64 q, .int .i64 t, .int .i64 v] 23)))
    have HM := Lib.hid (is_drew ((HM.out.alloc (.cells #[.int .i64 p', .int .i64 q', .int .i64 t', .int .i64 v'] 23)).alloc (.cells #[.int .i64 p, .int .i64 q, .int .i64 t, .int .i64 v] 23)))
    have HB := Lib.hid (((HB.out.alloc HB.out.size (.cells #[.int .i64 p', .int .i64 q', .int .i64 t', .int .i64 v'] 23)).alloc (HB.out.alloc HB.out.size (.cells #[.int .i64 p', .int .i64 q', .int .i64 t', .int .i64 v'] 23)).size (.cells #[.int .i64 p, .int .i64 q, .int .i64 t, .int .i64 v] 23)).drew)
    clear a0 a1 a2 a3 a4 a5 a6 a7 hlt HJ
    go_wp2_with fail
    go_at_call 7
    refine (target_spec A1 (M) c1 p q t v _ _ HI.out hc1 (by omega)).mono ?_
    rintro e w2 ⟨rfl, hb⟩
    have HB := Lib.hid (pure_below HB.out hb); have HI := Lib.hid (HI.out.pure hb); have HM := Lib.hid (HM.out.pure hb); have HX := Lib.hid (HX.out.pure hb); have HY := Lib.hid (HY.out.pure hb); clear hb
    have x0 := cell0 HX.out
    have x1 := cell1 HX.out
    have x2 := cell2 HX.out
    have x3 := cell3 HX.out
    go_wp2_with fail
    go_at_call 21
    refine (rtarget_spec A1 (M) c1 p q t v _ _ HI.out (by omega)).mono ?_
    rintro e w3 ⟨rfl, hb⟩
    clear x0 x1 x2 x3
    have HB := Lib.hid (pure_below HB.out hb); have HI := Lib.hid (HI.out.pure hb); have HM := Lib.hid (HM.out.pure hb); have HX := Lib.hid (HX.out.pure hb); have HY := Lib.hid (HY.out.pure hb); clear hb
    go_wp2_with fail
    have HB := Lib.hid HB.out.drew
    have HI := Lib.hid (is_drew HI.out)
    have HM := Lib.hid (is_drew HM.out)
    have HX := Lib.hid HX.out.drew
    have HY := Lib.hid HY.out.drew
    go_region_held3 (fun w' => w'.cell? ⟨w1.heap.size + 1, 0, none⟩ = some (.int .i64 p) ∧ w'.cell? ⟨w1.heap.size + 1, 1, none⟩ = some (.int .i64 q) ∧ w'.cell? ⟨w1.heap.size + 1, 2, none⟩ = some (.int .i64 t) ∧ w'.cell? ⟨w1.heap.size + 1, 3, none⟩ = some (.int .i64 v) ∧ w'.cell? ⟨w1.heap.size, 0, none⟩ = some (.int .i64 p') ∧ w'.cell? ⟨w1.heap.size, 1, none⟩ = some (.int .i64 q') ∧ w'.cell? ⟨w1.heap.size, 2, none⟩ = some (.int .i64 t') ∧ w'.cell? ⟨w1.heap.size, 3, none⟩ = some (.int .i64 v')) (first | assumption | exact cell44 HX.out HY.out)
      (first
      | (go_at_call 14; refine (may_spec A1 (M) c1 p q t v _ (by omega)).mono ?_; rintro e w4 ⟨rfl, hb⟩; have HB := Lib.hid (pure_below HB.out hb); have HI := Lib.hid (HI.out.pure hb); have HM := Lib.hid (HM.out.pure hb); have HX := Lib.hid (HX.out.pure hb); have HY := Lib.hid (HY.out.pure hb); clear hb)
      | (go_at_call 22; refine (rmay_spec A1 (M) c1 p q t v _ (by omega)).mono ?_; rintro e w4 ⟨rfl, hb⟩; have HB := Lib.hid (pure_below HB.out hb); have HI := Lib.hid (HI.out.pure hb); have HM := Lib.hid (HM.out.pure hb); have HX := Lib.hid (HX.out.pure hb); have HY := Lib.hid (HY.out.pure hb); clear hb)
      | (go_at_call 6; refine (same_spec p q t v p' q' t' v' _).mono ?_; rintro e w4 ⟨rfl, hb⟩; have HB := Lib.hid (pure_below HB.out hb); have HI := Lib.hid (HI.out.pure hb); have HM := Lib.hid (HM.out.pure hb); have HX := Lib.hid (HX.out.pure hb); have HY := Lib.hid (HY.out.pure hb); clear hb)
      | (go_at_call 23; refine (rsame_spec p q t v p' q' t' v' _).mono ?_; rintro e w4 ⟨rfl, hb⟩; have HB := Lib.hid (pure_below HB.out hb); have HI := Lib.hid (HI.out.pure hb); have HM := Lib.hid (HM.out.pure hb); have HX := Lib.hid (HX.out.pure hb); have HY := Lib.hid (HY.out.pure hb); clear hb)
      | (go_at_call 8; refine (kind_spec p q t v _).mono ?_; rintro e w4 ⟨rfl, hb⟩; have HB := Lib.hid (pure_below HB.out hb); have HI := Lib.hid (HI.out.pure hb); have HM := Lib.hid (HM.out.pure hb); have HX := Lib.hid (HX.out.pure hb); have HY := Lib.hid (HY.out.pure hb); clear hb)
      | (go_at_call 24; refine (rkind_spec p q t v _).mono ?_; rintro e w4 ⟨rfl, hb⟩; have HB := Lib.hid (pure_below HB.out hb); have HI := Lib.hid (HI.out.pure hb); have HM := Lib.hid (HM.out.pure hb); have HX := Lib.hid (HX.out.pure hb); have HY := Lib.hid (HY.out.pure hb); clear hb)
      | (go_at_call 20; refine (inside_spec A1 (M) c1 p m _ (by omega)).mono ?_; rintro e w4 ⟨rfl, rfl⟩)
      | (go_at_call 25; refine (rinside_spec A1 (M) c1 p m _ (by omega)).mono ?_; rintro e w4 ⟨rfl, rfl⟩)
      | (go_at_call 26; refine (eqb_spec A1 A (M) (M) c1 c _ _ _ HI.out HM.out).mono ?_; rw [eqB_self]; rintro e w4 ⟨rfl, rfl⟩)
      | (go_at_call 9; refine (refworks_spec _).mono ?_; rintro e w4 ⟨rfl, hb⟩; have HB := Lib.hid (pure_below HB.out hb); have HI := Lib.hid (HI.out.pure hb); have HM := Lib.hid (HM.out.pure hb); have HX := Lib.hid (HX.out.pure hb); have HY := Lib.hid (HY.out.pure hb); clear hb))
    go_wp2
    go_ret
    exact ⟨rfl, HB.out⟩

end Go.Proofs.Ytmahemllfghdfaa
