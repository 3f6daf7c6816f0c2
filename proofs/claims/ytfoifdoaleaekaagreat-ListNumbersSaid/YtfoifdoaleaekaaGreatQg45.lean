/-
  Package list: the examples of the chapter, all together.
-/
import Derived.Test.YtfoifdoaleaekaaGreatQg10
namespace Go.Proofs.YtfoifdoaleaekaaGreat
open Go.RowKit Go.Acc
theorem below_drew (w : World) : Below w.heap.size w w.drew := (Below.refl _ _).drew
set_option maxRecDepth 100000 in
set_option maxHeartbeats 2000000 in
theorem liworks_spec (w : World) : Calls Tryz.prog 18 #[] w fun e w' => e = .returned (.bool true) ∧ Below w.heap.size w w' := by
  have HX := Lib.hid (isb_vs w #[.int .u8 2, .int .u8 5, .int .u8 6, .int .u8 4, .int .u8 4, .int .u8 4] 6 (by rfl) (by rfl))
  have HB := Lib.hid ((Below.refl w.heap.size w).alloc (Nat.le_refl _) (.cells #[.int .u8 2, .int .u8 5, .int .u8 6, .int .u8 4, .int .u8 4, .int .u8 4] 5))
  go_enter Tryz.func18, Tryz.ntmps18
  go_wp2_with fail
  go_at_call 49
  refine (of24_spec 5 1 10 1 _).mono ?_
  rintro e w1 ⟨rfl, hb⟩
  replace HX := Lib.hid (HX.out.pure hb)
  replace HB := Lib.hid (pure_below HB.out hb)
  clear hb
  have HV := Lib.hid ((Blk.new w1 36 #[.int .i64 5, .int .i64 1, .int .i64 10, .int .i64 1]).alloc (.cells #[.int .i64 0, .int .i64 0, .int .i64 0, .int .i64 0] 36))
  have HN := Lib.hid (Blk.new_ (w := w1.alloc (.cells #[.int .i64 5, .int .i64 1, .int .i64 10, .int .i64 1] 36)) (g := w1.heap.size + 1) (by simp) 36 #[.int .i64 0, .int .i64 0, .int .i64 0, .int .i64 0])
  replace HX := Lib.hid ((HX.out.alloc (.cells #[.int .i64 5, .int .i64 1, .int .i64 10, .int .i64 1] 36)).alloc (.cells #[.int .i64 0, .int .i64 0, .int .i64 0, .int .i64 0] 36))
  replace HB := Lib.hid ((HB.out.alloc HB.out.size (.cells #[.int .i64 5, .int .i64 1, .int .i64 10, .int .i64 1] 36)).alloc (HB.out.alloc HB.out.size (.cells #[.int .i64 5, .int .i64 1, .int .i64 10, .int .i64 1] 36)).size (.cells #[.int .i64 0, .int .i64 0, .int .i64 0, .int .i64 0] 36))
  go_upto_region 3 with fail
  generalize (w1.alloc (.cells #[.int .i64 5, .int .i64 1, .int .i64 10, .int .i64 1] 36)).alloc (.cells #[.int .i64 0, .int .i64 0, .int .i64 0, .int .i64 0] 36) = w2 at HV HN HX HB ⊢
  generalize w1.heap.size + 1 = gN at HN ⊢
  generalize w1.heap.size = gV at HV ⊢
  have v0 := cell0 HV.out; have v1 := cell1 HV.out; have v2 := cell2 HV.out; have v3 := cell3 HV.out; have n0 := cell0 HN.out; have n1 := cell1 HN.out; have n2 := cell2 HN.out; have n3 := cell3 HN.out
  go_region_held3 (fun w' => (w'.cell? ⟨gV, 0, none⟩ = some (.int .i64 5) ∧ w'.cell? ⟨gV, 1, none⟩ = some (.int .i64 1) ∧ w'.cell? ⟨gV, 2, none⟩ = some (.int .i64 10) ∧ w'.cell? ⟨gV, 3, none⟩ = some (.int .i64 1)) ∧ w'.cell? ⟨gN, 0, none⟩ = some (.int .i64 0) ∧ w'.cell? ⟨gN, 1, none⟩ = some (.int .i64 0) ∧ w'.cell? ⟨gN, 2, none⟩ = some (.int .i64 0) ∧ w'.cell? ⟨gN, 3, none⟩ = some (.int .i64 0)) (first | with_reducible exact ⟨⟨v0, v1, v2, v3⟩, n0, n1, n2, n3⟩ | with_reducible exact ⟨⟨ldrew v0, ldrew v1, ldrew v2, ldrew v3⟩, ldrew n0, ldrew n1, ldrew n2, ldrew n3⟩)
    (first
      | (go_at_call 50; (with_reducible refine (spans_yes _ 6 6 5 1 10 1 0 1 5 0 [2, 5, 6, 4, 4, 4] _ (isl_drew HX.out) (by decide) (by decide) (by decide) (by decide) (by decide) (by decide)).mono ?_); rintro e wn ⟨rfl, hb⟩; have hb := pure_trans (below_drew w2) hb; clear v0 v1 v2 v3 n0 n1 n2 n3; replace HB := Lib.hid (pure_below HB.out hb); replace HX := Lib.hid (HX.out.pure hb); replace HV := Lib.hid (HV.out.pure hb); replace HN := Lib.hid (HN.out.pure hb); clear hb; have v0 := cell0 HV.out; have v1 := cell1 HV.out; have v2 := cell2 HV.out; have v3 := cell3 HV.out; have n0 := cell0 HN.out; have n1 := cell1 HN.out; have n2 := cell2 HN.out; have n3 := cell3 HN.out)
      | (go_at_call 21; (with_reducible refine (has_yes _ 6 6 5 1 10 1 2 0 [2, 5, 6, 4, 4, 4] _ HX.out (by decide) (by decide) (by decide) (by decide)).mono ?_); rintro e wn ⟨rfl, hb⟩; clear v0 v1 v2 v3 n0 n1 n2 n3; replace HB := Lib.hid (pure_below HB.out hb); replace HX := Lib.hid (HX.out.pure hb); replace HV := Lib.hid (HV.out.pure hb); replace HN := Lib.hid (HN.out.pure hb); clear hb; have v0 := cell0 HV.out; have v1 := cell1 HV.out; have v2 := cell2 HV.out; have v3 := cell3 HV.out; have n0 := cell0 HN.out; have n1 := cell1 HN.out; have n2 := cell2 HN.out; have n3 := cell3 HN.out)
      | (go_at_call 49; (with_reducible refine (of24_spec 2 1 1 1 _).mono ?_); rintro e wn ⟨rfl, hb⟩; clear v0 v1 v2 v3 n0 n1 n2 n3; replace HB := Lib.hid (pure_below HB.out hb); replace HX := Lib.hid (HX.out.pure hb); replace HV := Lib.hid (HV.out.pure hb); replace HN := Lib.hid (HN.out.pure hb); clear hb; have v0 := cell0 HV.out; have v1 := cell1 HV.out; have v2 := cell2 HV.out; have v3 := cell3 HV.out; have n0 := cell0 HN.out; have n1 := cell1 HN.out; have n2 := cell2 HN.out; have n3 := cell3 HN.out)
      | (go_at_call 51; (with_reducible refine (gives_yes _ 6 6 5 1 10 1 1 2 1 1 1 0 [2, 5, 6, 4, 4, 4] _ HX.out (by decide) (by decide) (by decide) (by decide) (by decide) (by decide) (by decide)).mono ?_); rintro e wn ⟨rfl, hb⟩; clear v0 v1 v2 v3 n0 n1 n2 n3; replace HB := Lib.hid (pure_below HB.out hb); replace HX := Lib.hid (HX.out.pure hb); replace HV := Lib.hid (HV.out.pure hb); replace HN := Lib.hid (HN.out.pure hb); clear hb; have v0 := cell0 HV.out; have v1 := cell1 HV.out; have v2 := cell2 HV.out; have v3 := cell3 HV.out; have n0 := cell0 HN.out; have n1 := cell1 HN.out; have n2 := cell2 HN.out; have n3 := cell3 HN.out)
      | (go_at_call 51; (with_reducible refine (gives_yes _ 6 6 5 1 10 1 2 0 0 0 0 6 [2, 5, 6, 4, 4, 4] _ HX.out (by decide) (by decide) (by decide) (by decide) (by decide) (by decide) (by decide)).mono ?_); rintro e wn ⟨rfl, hb⟩; clear v0 v1 v2 v3 n0 n1 n2 n3; replace HB := Lib.hid (pure_below HB.out hb); replace HX := Lib.hid (HX.out.pure hb); replace HV := Lib.hid (HV.out.pure hb); replace HN := Lib.hid (HN.out.pure hb); clear hb; have v0 := cell0 HV.out; have v1 := cell1 HV.out; have v2 := cell2 HV.out; have v3 := cell3 HV.out; have n0 := cell0 HN.out; have n1 := cell1 HN.out; have n2 := cell2 HN.out; have n3 := cell3 HN.out))
  clear v0 v1 v2 v3 n0 n1 n2 n3
  replace HX : Hid (IsB (wn.alloc (.cells #[.int .u8 2, .int .u8 5, .int .u8 6, .int .u8 2] 5)) (some ⟨wn.heap.size, 0, none⟩) 4 _) := Lib.hid (isb_vs wn #[.int .u8 2, .int .u8 5, .int .u8 6, .int .u8 2] 4 (by rfl) (by rfl))
  replace HB := Lib.hid (HB.out.alloc HB.out.size (.cells #[.int .u8 2, .int .u8 5, .int .u8 6, .int .u8 2] 5))
  replace HV := Lib.hid (HV.out.alloc (.cells #[.int .u8 2, .int .u8 5, .int .u8 6, .int .u8 2] 5))
  replace HN := Lib.hid (HN.out.alloc (.cells #[.int .u8 2, .int .u8 5, .int .u8 6, .int .u8 2] 5))
  go_wp2_with fail
  go_at_call 49
  refine (of24_spec 3 1 11 1 _).mono ?_
  rintro e wn ⟨rfl, hb⟩
  replace HB := Lib.hid (pure_below HB.out hb); replace HX := Lib.hid (HX.out.pure hb); replace HV := Lib.hid (HV.out.pure hb); replace HN := Lib.hid (HN.out.pure hb); clear hb
  go_wp2_with fail
  go_at_call 49
  refine (of24_spec 2 1 1 1 _).mono ?_
  rintro e wn ⟨rfl, hb⟩
  replace HB := Lib.hid (pure_below HB.out hb); replace HX := Lib.hid (HX.out.pure hb); replace HV := Lib.hid (HV.out.pure hb); replace HN := Lib.hid (HN.out.pure hb); clear hb
  go_wp2_with fail
  go_at_call 51
  refine (gives_yes _ 4 4 3 1 11 1 1 2 1 1 1 0 _ _ HX.out (by decide) (by decide) (by decide) (by decide) (by decide) (by decide) (by decide)).mono ?_
  rintro e wn ⟨rfl, hb⟩
  replace HB := Lib.hid (pure_below HB.out hb); replace HX := Lib.hid (HX.out.pure hb); replace HV := Lib.hid (HV.out.pure hb); replace HN := Lib.hid (HN.out.pure hb); clear hb
  go_wp2_with fail
  go_at_call 49
  refine (of24_spec 3 1 16 1 _).mono ?_
  rintro e wn ⟨rfl, hb⟩
  replace HB := Lib.hid (pure_below HB.out hb); replace HX := Lib.hid (HX.out.pure hb); replace HV := Lib.hid (HV.out.pure hb); replace HN := Lib.hid (HN.out.pure hb); clear hb
  go_wp2_with fail
  go_at_call 21
  refine (has_yes _ 4 4 3 1 16 1 2 0 _ _ HX.out (by decide) (by decide) (by decide) (by decide)).mono ?_
  rintro e wn ⟨rfl, hb⟩
  replace HB := Lib.hid (pure_below HB.out hb); replace HX := Lib.hid (HX.out.pure hb); replace HV := Lib.hid (HV.out.pure hb); replace HN := Lib.hid (HN.out.pure hb); clear hb
  go_wp2_with fail
  go_at_call 49
  refine (of24_spec 3 1 16 1 _).mono ?_
  rintro e wn ⟨rfl, hb⟩
  replace HB := Lib.hid (pure_below HB.out hb); replace HX := Lib.hid (HX.out.pure hb); replace HV := Lib.hid (HV.out.pure hb); replace HN := Lib.hid (HN.out.pure hb); clear hb
  go_wp2_with fail
  go_at_call 50
  refine (spans_yes _ 4 4 3 1 16 1 1 1 3 0 _ _ HX.out (by decide) (by decide) (by decide) (by decide) (by decide) (by decide)).mono ?_
  rintro e wn ⟨rfl, hb⟩
  replace HB := Lib.hid (pure_below HB.out hb); replace HX := Lib.hid (HX.out.pure hb); replace HV := Lib.hid (HV.out.pure hb); replace HN := Lib.hid (HN.out.pure hb); clear hb
  go_upto_region 8 with fail
  generalize wn = wa at HN HB ⊢
  clear HX HV
  have n0 := cell0 HN.out
  have n1 := cell1 HN.out
  have n2 := cell2 HN.out
  have n3 := cell3 HN.out
  have G1 := Lib.hid fun W : World => isb_vs W #[.int .u8 0, .int .u8 1, .int .u8 0, .int .u8 3] 4 (by rfl) (by rfl)
  have G2 := Lib.hid fun W : World => isb_vs W #[.int .u8 9, .int .u8 1] 2 (by rfl) (by rfl)
  have G3 := Lib.hid fun W : World => isb_vs W #[.int .u8 1, .int .u8 5, .int .u8 12, .int .u8 2] 4 (by rfl) (by rfl)
  go_cut [65] (fun u65 wx => u65 = .bool false ∧ Below w.heap.size w wx)
  case first =>
   go_region_held3 (fun w' => w'.cell? ⟨gN, 0, none⟩ = some (.int .i64 0) ∧ w'.cell? ⟨gN, 1, none⟩ = some (.int .i64 0) ∧ w'.cell? ⟨gN, 2, none⟩ = some (.int .i64 0) ∧ w'.cell? ⟨gN, 3, none⟩ = some (.int .i64 0)) ((with_reducible refine ⟨?_, ?_, ?_, ?_⟩) <;> (repeat (first | with_reducible assumption | refine ldrew ?_ | refine lalloc _ ?_)))
    (first
      | (go_at_call 49; (with_reducible refine (of24_spec 3 1 9 1 _).mono ?_); rintro e wn ⟨rfl, hb⟩; (first | with_reducible have HX1 := Lib.hid ((G1.out _).pure hb) | with_reducible have HX1 := Lib.hid ((isl_drew (G1.out _)).pure hb) | skip); (first | with_reducible replace HB := Lib.hid (pure_below HB.out hb) | with_reducible replace HB := Lib.hid (pure_below HB.out.drew hb) | with_reducible replace HB := Lib.hid (pure_below (HB.out.alloc HB.out.size _) hb) | with_reducible replace HB := Lib.hid (pure_below (HB.out.alloc HB.out.size _).drew hb)); (first | with_reducible replace HN := Lib.hid (HN.out.pure hb) | with_reducible replace HN := Lib.hid (HN.out.drew.pure hb) | with_reducible replace HN := Lib.hid ((HN.out.alloc _).pure hb) | with_reducible replace HN := Lib.hid ((HN.out.alloc _).drew.pure hb)); clear n0 n1 n2 n3 hb; have n0 := cell0 HN.out; have n1 := cell1 HN.out; have n2 := cell2 HN.out; have n3 := cell3 HN.out)
      | (go_at_call 50; (first | (with_reducible refine (spans_yes _ 4 4 3 1 9 1 0 0 0 211 _ _ HX1.out (by decide) (by decide) (by decide) (by decide) (by decide) (by decide)).mono ?_) | (with_reducible refine (spans_yes _ 4 4 3 1 9 1 0 0 0 211 _ _ (G1.out _) (by decide) (by decide) (by decide) (by decide) (by decide) (by decide)).mono ?_)); rintro e wn ⟨rfl, hb⟩; (first | with_reducible replace HB := Lib.hid (pure_below HB.out hb) | with_reducible replace HB := Lib.hid (pure_below HB.out.drew hb) | with_reducible replace HB := Lib.hid (pure_below (HB.out.alloc HB.out.size _) hb) | with_reducible replace HB := Lib.hid (pure_below (HB.out.alloc HB.out.size _).drew hb)); (first | with_reducible replace HN := Lib.hid (HN.out.pure hb) | with_reducible replace HN := Lib.hid (HN.out.drew.pure hb) | with_reducible replace HN := Lib.hid ((HN.out.alloc _).pure hb) | with_reducible replace HN := Lib.hid ((HN.out.alloc _).drew.pure hb)); clear n0 n1 n2 n3 hb; have n0 := cell0 HN.out; have n1 := cell1 HN.out; have n2 := cell2 HN.out; have n3 := cell3 HN.out)
      | (go_at_call 49; (with_reducible refine (of24_spec 1 1 11 1 _).mono ?_); rintro e wn ⟨rfl, hb⟩; (first | with_reducible have HX2 := Lib.hid ((G2.out _).pure hb) | with_reducible have HX2 := Lib.hid ((isl_drew (G2.out _)).pure hb) | skip); (first | with_reducible replace HB := Lib.hid (pure_below HB.out hb) | with_reducible replace HB := Lib.hid (pure_below HB.out.drew hb) | with_reducible replace HB := Lib.hid (pure_below (HB.out.alloc HB.out.size _) hb) | with_reducible replace HB := Lib.hid (pure_below (HB.out.alloc HB.out.size _).drew hb)); (first | with_reducible replace HN := Lib.hid (HN.out.pure hb) | with_reducible replace HN := Lib.hid (HN.out.drew.pure hb) | with_reducible replace HN := Lib.hid ((HN.out.alloc _).pure hb) | with_reducible replace HN := Lib.hid ((HN.out.alloc _).drew.pure hb)); clear n0 n1 n2 n3 hb; have n0 := cell0 HN.out; have n1 := cell1 HN.out; have n2 := cell2 HN.out; have n3 := cell3 HN.out)
      | (go_at_call 21; (first | (with_reducible refine (has_yes _ 2 2 1 1 11 1 0 211 _ _ HX2.out (by decide) (by decide) (by decide) (by decide)).mono ?_) | (with_reducible refine (has_yes _ 2 2 1 1 11 1 0 211 _ _ (G2.out _) (by decide) (by decide) (by decide) (by decide)).mono ?_)); rintro e wn ⟨rfl, hb⟩; (first | with_reducible replace HB := Lib.hid (pure_below HB.out hb) | with_reducible replace HB := Lib.hid (pure_below HB.out.drew hb) | with_reducible replace HB := Lib.hid (pure_below (HB.out.alloc HB.out.size _) hb) | with_reducible replace HB := Lib.hid (pure_below (HB.out.alloc HB.out.size _).drew hb)); (first | with_reducible replace HN := Lib.hid (HN.out.pure hb) | with_reducible replace HN := Lib.hid (HN.out.drew.pure hb) | with_reducible replace HN := Lib.hid ((HN.out.alloc _).pure hb) | with_reducible replace HN := Lib.hid ((HN.out.alloc _).drew.pure hb)); clear n0 n1 n2 n3 hb; have n0 := cell0 HN.out; have n1 := cell1 HN.out; have n2 := cell2 HN.out; have n3 := cell3 HN.out)
      | (go_at_call 49; (with_reducible refine (of24_spec 3 1 10 1 _).mono ?_); rintro e wn ⟨rfl, hb⟩; (first | with_reducible have HX3 := Lib.hid ((G3.out _).pure hb) | with_reducible have HX3 := Lib.hid ((isl_drew (G3.out _)).pure hb) | skip); (first | with_reducible replace HB := Lib.hid (pure_below HB.out hb) | with_reducible replace HB := Lib.hid (pure_below HB.out.drew hb) | with_reducible replace HB := Lib.hid (pure_below (HB.out.alloc HB.out.size _) hb) | with_reducible replace HB := Lib.hid (pure_below (HB.out.alloc HB.out.size _).drew hb)); (first | with_reducible replace HN := Lib.hid (HN.out.pure hb) | with_reducible replace HN := Lib.hid (HN.out.drew.pure hb) | with_reducible replace HN := Lib.hid ((HN.out.alloc _).pure hb) | with_reducible replace HN := Lib.hid ((HN.out.alloc _).drew.pure hb)); clear n0 n1 n2 n3 hb; have n0 := cell0 HN.out; have n1 := cell1 HN.out; have n2 := cell2 HN.out; have n3 := cell3 HN.out)
      | (go_at_call 51; (first | (with_reducible refine (gives_yes _ 4 4 3 1 10 1 0 0 0 0 0 20 _ _ HX3.out (by decide) (by decide) (by decide) (by decide) (by decide) (by decide) (by decide)).mono ?_) | (with_reducible refine (gives_yes _ 4 4 3 1 10 1 0 0 0 0 0 20 _ _ (G3.out _) (by decide) (by decide) (by decide) (by decide) (by decide) (by decide) (by decide)).mono ?_)); rintro e wn ⟨rfl, hb⟩; (first | with_reducible replace HB := Lib.hid (pure_below HB.out hb) | with_reducible replace HB := Lib.hid (pure_below HB.out.drew hb) | with_reducible replace HB := Lib.hid (pure_below (HB.out.alloc HB.out.size _) hb) | with_reducible replace HB := Lib.hid (pure_below (HB.out.alloc HB.out.size _).drew hb)); (first | with_reducible replace HN := Lib.hid (HN.out.pure hb) | with_reducible replace HN := Lib.hid (HN.out.drew.pure hb) | with_reducible replace HN := Lib.hid ((HN.out.alloc _).pure hb) | with_reducible replace HN := Lib.hid ((HN.out.alloc _).drew.pure hb)); clear n0 n1 n2 n3 hb; have n0 := cell0 HN.out; have n1 := cell1 HN.out; have n2 := cell2 HN.out; have n3 := cell3 HN.out))
   all_goals
    go_wp2_with fail
    go_meet
    exact ⟨rfl, HB.out⟩
  case rest =>
    obtain ⟨rfl, hb⟩ := hcut
    have HB := Lib.hid hb
    clear hb HN
    have G := Lib.hid fun W : World => isb_vs W #[.int .u8 0, .int .u8 0, .int .u8 0, .int .u8 1] 4 (by rfl) (by rfl)
    go_wp2_with fail
    go_at_call 49
    refine (of24_spec 3 1 11 4 _).mono ?_
    rintro e wn ⟨rfl, hb⟩
    replace HB := Lib.hid (pure_below (HB.out.alloc HB.out.size _) hb)
    have HX := Lib.hid ((G.out _).pure hb)
    clear hb G
    go_wp2_with fail
    go_at_call 21
    refine (has_yes _ 4 4 3 1 11 4 0 212 _ _ HX.out (by decide) (by decide) (by decide) (by decide)).mono ?_
    rintro e wn ⟨rfl, hb⟩
    replace HB := Lib.hid (pure_below HB.out hb)
    clear hb HX
    have G := Lib.hid fun W : World => isb_vs W #[.int .u8 5] 1 (by rfl) (by rfl)
    go_wp2_with fail
    go_at_call 49
    refine (of24_spec 0 1 1 1 _).mono ?_
    rintro e wn ⟨rfl, hb⟩
    replace HB := Lib.hid (pure_below (HB.out.alloc HB.out.size _) hb)
    have HX := Lib.hid ((G.out _).pure hb)
    clear hb G
    go_wp2_with fail
    go_at_call 21
    refine (has_yes _ 1 1 0 1 1 1 0 60 _ _ HX.out (by decide) (by decide) (by decide) (by decide)).mono ?_
    rintro e wn ⟨rfl, hb⟩
    replace HB := Lib.hid (pure_below HB.out hb)
    clear hb HX
    have G := Lib.hid fun W : World => isb_vs W #[.int .u8 0, .int .u8 1] 2 (by rfl) (by rfl)
    go_wp2_with fail
    go_at_call 49
    refine (of24_spec 1 1 14 1 _).mono ?_
    rintro e wn ⟨rfl, hb⟩
    replace HB := Lib.hid (pure_below (HB.out.alloc HB.out.size _) hb)
    have HX := Lib.hid ((G.out _).pure hb)
    clear hb G
    go_wp2_with fail
    go_at_call 21
    refine (has_yes _ 2 2 1 1 14 1 0 211 _ _ HX.out (by decide) (by decide) (by decide) (by decide)).mono ?_
    rintro e wn ⟨rfl, hb⟩
    replace HB := Lib.hid (pure_below HB.out hb)
    clear hb HX
    go_wp2
    go_ret
    exact ⟨rfl, HB.out⟩
end Go.Proofs.YtfoifdoaleaekaaGreat
