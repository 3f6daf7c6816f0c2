/-
  Package tree: a valid node without children passes such.
  Package tree: a valid node without children passes such.
-/
import Derived.Test.YtjhigmgkmmjlfaaGreatQ16
namespace Go.Proofs.YtjhigmgkmmjlfaaGreat
open Go.RowKit Go.Acc
theorem bkalloc {w : World} {g : Nat} {i : Nat} {v : Value} (o : Obj) (h : w.cell? ⟨g, i, none⟩ = some v) : (w.alloc o).cell? ⟨g, i, none⟩ = some v := kalloc o h
set_option maxRecDepth 100000 in
set_option maxHeartbeats 2000000 in
theorem such_1 (A : Option Addr) (ac : Nat) (B : Option Addr) (bc : Nat) (w : World) : Calls Tryz.prog 54 #[.agg #[.int .i64 1, .int .i64 0, .int .u64 ((0 : Nat) : Int), .string ⟨([] : List UInt8).toArray⟩, .slice A 0 ac, .slice B 0 bc]] w fun e w' => e = .returned (.bool true) ∧ Below w.heap.size w w' := by
  have HB := Lib.hid (show Below w.heap.size w (w.alloc (.cells #[.int .i64 1, .int .i64 0, .int .u64 ((0 : Nat) : Int), .string ⟨([] : List UInt8).toArray⟩, .slice A 0 ac, .slice B 0 bc] 26)) from (Below.refl _ _).alloc (Nat.le_refl _) _)
  have HX := Lib.hid (Blk.new w 26 #[.int .i64 1, .int .i64 0, .int .u64 ((0 : Nat) : Int), .string ⟨([] : List UInt8).toArray⟩, .slice A 0 ac, .slice B 0 bc])
  go_enter Tryz.func54, Tryz.ntmps54
  go_upto_region 3 with fail
  generalize w.alloc (.cells #[.int .i64 1, .int .i64 0, .int .u64 ((0 : Nat) : Int), .string ⟨([] : List UInt8).toArray⟩, .slice A 0 ac, .slice B 0 bc] 26) = w1 at HB HX ⊢
  generalize w.heap.size = g at HX ⊢
  have c0 : w1.cell? ⟨g, 0, none⟩ = some (.int .i64 1) := HX.out.cell 0
  have hne := Nat.ne_of_lt (lt_of_cell c0)
  simp only at hne
  go_cut [3, 4] (fun u3 u4 wx => ∃ wy, wy = wx ∧ u3 = .int .i64 0 ∧ (∃ h, u4 = .pointer (some ⟨h, 0, none⟩)) ∧ Below w1.heap.size w1 wx)
  case first =>
    go_region_held3 (fun w' => w'.cell? ⟨g, 0, none⟩ = some (.int .i64 1)) (first | with_reducible exact c0 | with_reducible exact kdrew c0 | with_reducible exact kdrewN _ c0 | with_reducible exact kdrew (kalloc _ c0) | with_reducible exact kdrewN _ (kalloc _ c0)) (first | (go_at_call 97; (with_reducible refine (uses_spec 1 0 _ (by omega) (by omega) rfl).mono ?_); rintro e w' ⟨rfl, rfl⟩) | (go_at_call 98; (with_reducible refine (part_is 1 (-1) _ (by omega) (by omega) rfl).mono ?_); rintro e w' ⟨rfl, rfl⟩))
    all_goals
      go_wp2_with fail
      go_meet
      exact ⟨_, rfl, rfl, ⟨_, rfl⟩, ((Below.refl _ _).alloc (Nat.le_refl _) _).drew⟩
  case rest =>
  obtain ⟨w2, rfl, rfl, ⟨h, rfl⟩, hb⟩ := hcut
  have HX2 := Lib.hid (HX.out.pure hb)
  have HB2 := Lib.hid (pure_below HB.out hb)
  have d0 : w2.cell? ⟨g, 0, none⟩ = some (.int .i64 1) := HX2.out.cell 0
  have d1 : w2.cell? ⟨g, 1, none⟩ = some (.int .i64 0) := HX2.out.cell 1
  have d2 : w2.cell? ⟨g, 2, none⟩ = some (.int .u64 (((0 : Nat) : Nat) : Int)) := HX2.out.cell 2
  have d3 : w2.cell? ⟨g, 3, none⟩ = some (.string ⟨(([] : List UInt8)).toArray⟩) := HX2.out.cell 3
  have d4 : w2.cell? ⟨g, 4, none⟩ = some (.slice A 0 ac) := HX2.out.cell 4
  have d5 : w2.cell? ⟨g, 5, none⟩ = some (.slice B 0 bc) := HX2.out.cell 5
  clear hb c0 hne
  go_wp2_with fail
  go_at_call 100
  refine (cont_none B bc _ _).mono ?_
  rintro e w3 ⟨rfl, rfl⟩
  clear d0 d1 d2 d3 d4 d5
  go_wp2_with fail
  go_ret
  exact ⟨rfl, HB2.out⟩
set_option maxRecDepth 100000 in
set_option maxHeartbeats 2000000 in
theorem such_20 (A : Option Addr) (ac : Nat) (B : Option Addr) (bc : Nat) (w : World) : Calls Tryz.prog 54 #[.agg #[.int .i64 2, .int .i64 0, .int .u64 ((0 : Nat) : Int), .string ⟨([] : List UInt8).toArray⟩, .slice A 0 ac, .slice B 0 bc]] w fun e w' => e = .returned (.bool true) ∧ Below w.heap.size w w' := by
  have HB := Lib.hid (show Below w.heap.size w (w.alloc (.cells #[.int .i64 2, .int .i64 0, .int .u64 ((0 : Nat) : Int), .string ⟨([] : List UInt8).toArray⟩, .slice A 0 ac, .slice B 0 bc] 26)) from (Below.refl _ _).alloc (Nat.le_refl _) _)
  have HX := Lib.hid (Blk.new w 26 #[.int .i64 2, .int .i64 0, .int .u64 ((0 : Nat) : Int), .string ⟨([] : List UInt8).toArray⟩, .slice A 0 ac, .slice B 0 bc])
  go_enter Tryz.func54, Tryz.ntmps54
  go_upto_region 3 with fail
  generalize w.alloc (.cells #[.int .i64 2, .int .i64 0, .int .u64 ((0 : Nat) : Int), .string ⟨([] : List UInt8).toArray⟩, .slice A 0 ac, .slice B 0 bc] 26) = w1 at HB HX ⊢
  generalize w.heap.size = g at HX ⊢
  have c0 : w1.cell? ⟨g, 0, none⟩ = some (.int .i64 2) := HX.out.cell 0
  have hne := Nat.ne_of_lt (lt_of_cell c0)
  simp only at hne
  go_cut [3, 4] (fun u3 u4 wx => ∃ wy, wy = wx ∧ u3 = .int .i64 1 ∧ (∃ h, u4 = .pointer (some ⟨h, 0, none⟩)) ∧ Below w1.heap.size w1 wx)
  case first =>
    go_region_held3 (fun w' => w'.cell? ⟨g, 0, none⟩ = some (.int .i64 2)) (first | with_reducible exact c0 | with_reducible exact kdrew c0 | with_reducible exact kdrewN _ c0 | with_reducible exact kdrew (kalloc _ c0) | with_reducible exact kdrewN _ (kalloc _ c0)) (first | (go_at_call 97; (with_reducible refine (uses_spec 2 1 _ (by omega) (by omega) rfl).mono ?_); rintro e w' ⟨rfl, rfl⟩) | (go_at_call 98; (with_reducible refine (part_is 2 (-1) _ (by omega) (by omega) rfl).mono ?_); rintro e w' ⟨rfl, rfl⟩))
    all_goals
      go_wp2_with fail
      go_meet
      exact ⟨_, rfl, rfl, ⟨_, rfl⟩, ((Below.refl _ _).alloc (Nat.le_refl _) _).drew⟩
  case rest =>
  obtain ⟨w2, rfl, rfl, ⟨h, rfl⟩, hb⟩ := hcut
  have HX2 := Lib.hid (HX.out.pure hb)
  have HB2 := Lib.hid (pure_below HB.out hb)
  have d0 : w2.cell? ⟨g, 0, none⟩ = some (.int .i64 2) := HX2.out.cell 0
  have d1 : w2.cell? ⟨g, 1, none⟩ = some (.int .i64 0) := HX2.out.cell 1
  have d2 : w2.cell? ⟨g, 2, none⟩ = some (.int .u64 (((0 : Nat) : Nat) : Int)) := HX2.out.cell 2
  have d3 : w2.cell? ⟨g, 3, none⟩ = some (.string ⟨(([] : List UInt8)).toArray⟩) := HX2.out.cell 3
  have d4 : w2.cell? ⟨g, 4, none⟩ = some (.slice A 0 ac) := HX2.out.cell 4
  have d5 : w2.cell? ⟨g, 5, none⟩ = some (.slice B 0 bc) := HX2.out.cell 5
  clear hb c0 hne
  go_wp2_with fail
  go_at_call 100
  refine (cont_none B bc _ _).mono ?_
  rintro e w3 ⟨rfl, rfl⟩
  clear d0 d1 d2 d3 d4 d5
  go_wp2_with fail
  go_ret
  exact ⟨rfl, HB2.out⟩
set_option maxRecDepth 100000 in
set_option maxHeartbeats 2000000 in
theorem such_21 (A : Option Addr) (ac : Nat) (B : Option Addr) (bc : Nat) (w : World) : Calls Tryz.prog 54 #[.agg #[.int .i64 2, .int .i64 1, .int .u64 ((0 : Nat) : Int), .string ⟨([] : List UInt8).toArray⟩, .slice A 0 ac, .slice B 0 bc]] w fun e w' => e = .returned (.bool true) ∧ Below w.heap.size w w' := by
  have HB := Lib.hid (show Below w.heap.size w (w.alloc (.cells #[.int .i64 2, .int .i64 1, .int .u64 ((0 : Nat) : Int), .string ⟨([] : List UInt8).toArray⟩, .slice A 0 ac, .slice B 0 bc] 26)) from (Below.refl _ _).alloc (Nat.le_refl _) _)
  have HX := Lib.hid (Blk.new w 26 #[.int .i64 2, .int .i64 1, .int .u64 ((0 : Nat) : Int), .string ⟨([] : List UInt8).toArray⟩, .slice A 0 ac, .slice B 0 bc])
  go_enter Tryz.func54, Tryz.ntmps54
  go_upto_region 3 with fail
  generalize w.alloc (.cells #[.int .i64 2, .int .i64 1, .int .u64 ((0 : Nat) : Int), .string ⟨([] : List UInt8).toArray⟩, .slice A 0 ac, .slice B 0 bc] 26) = w1 at HB HX ⊢
  generalize w.heap.size = g at HX ⊢
  have c0 : w1.cell? ⟨g, 0, none⟩ = some (.int .i64 2) := HX.out.cell 0
  have hne := Nat.ne_of_lt (lt_of_cell c0)
  simp only at hne
  go_cut [3, 4] (fun u3 u4 wx => ∃ wy, wy = wx ∧ u3 = .int .i64 1 ∧ (∃ h, u4 = .pointer (some ⟨h, 0, none⟩)) ∧ Below w1.heap.size w1 wx)
  case first =>
    go_region_held3 (fun w' => w'.cell? ⟨g, 0, none⟩ = some (.int .i64 2)) (first | with_reducible exact c0 | with_reducible exact kdrew c0 | with_reducible exact kdrewN _ c0 | with_reducible exact kdrew (kalloc _ c0) | with_reducible exact kdrewN _ (kalloc _ c0)) (first | (go_at_call 97; (with_reducible refine (uses_spec 2 1 _ (by omega) (by omega) rfl).mono ?_); rintro e w' ⟨rfl, rfl⟩) | (go_at_call 98; (with_reducible refine (part_is 2 (-1) _ (by omega) (by omega) rfl).mono ?_); rintro e w' ⟨rfl, rfl⟩))
    all_goals
      go_wp2_with fail
      go_meet
      exact ⟨_, rfl, rfl, ⟨_, rfl⟩, ((Below.refl _ _).alloc (Nat.le_refl _) _).drew⟩
  case rest =>
  obtain ⟨w2, rfl, rfl, ⟨h, rfl⟩, hb⟩ := hcut
  have HX2 := Lib.hid (HX.out.pure hb)
  have HB2 := Lib.hid (pure_below HB.out hb)
  have d0 : w2.cell? ⟨g, 0, none⟩ = some (.int .i64 2) := HX2.out.cell 0
  have d1 : w2.cell? ⟨g, 1, none⟩ = some (.int .i64 1) := HX2.out.cell 1
  have d2 : w2.cell? ⟨g, 2, none⟩ = some (.int .u64 (((0 : Nat) : Nat) : Int)) := HX2.out.cell 2
  have d3 : w2.cell? ⟨g, 3, none⟩ = some (.string ⟨(([] : List UInt8)).toArray⟩) := HX2.out.cell 3
  have d4 : w2.cell? ⟨g, 4, none⟩ = some (.slice A 0 ac) := HX2.out.cell 4
  have d5 : w2.cell? ⟨g, 5, none⟩ = some (.slice B 0 bc) := HX2.out.cell 5
  clear hb c0 hne
  go_wp2_with fail
  go_at_call 100
  refine (cont_none B bc _ _).mono ?_
  rintro e w3 ⟨rfl, rfl⟩
  clear d0 d1 d2 d3 d4 d5
  go_wp2_with fail
  go_ret
  exact ⟨rfl, HB2.out⟩
set_option maxRecDepth 100000 in
set_option maxHeartbeats 2000000 in
theorem such_3 (n : Int) (A : Option Addr) (ac : Nat) (B : Option Addr) (bc : Nat) (w : World) : Calls Tryz.prog 54 #[.agg #[.int .i64 3, .int .i64 n, .int .u64 ((0 : Nat) : Int), .string ⟨([] : List UInt8).toArray⟩, .slice A 0 ac, .slice B 0 bc]] w fun e w' => e = .returned (.bool true) ∧ Below w.heap.size w w' := by
  have HB := Lib.hid (show Below w.heap.size w (w.alloc (.cells #[.int .i64 3, .int .i64 n, .int .u64 ((0 : Nat) : Int), .string ⟨([] : List UInt8).toArray⟩, .slice A 0 ac, .slice B 0 bc] 26)) from (Below.refl _ _).alloc (Nat.le_refl _) _)
  have HX := Lib.hid (Blk.new w 26 #[.int .i64 3, .int .i64 n, .int .u64 ((0 : Nat) : Int), .string ⟨([] : List UInt8).toArray⟩, .slice A 0 ac, .slice B 0 bc])
  go_enter Tryz.func54, Tryz.ntmps54
  go_upto_region 3 with fail
  generalize w.alloc (.cells #[.int .i64 3, .int .i64 n, .int .u64 ((0 : Nat) : Int), .string ⟨([] : List UInt8).toArray⟩, .slice A 0 ac, .slice B 0 bc] 26) = w1 at HB HX ⊢
  generalize w.heap.size = g at HX ⊢
  have c0 : w1.cell? ⟨g, 0, none⟩ = some (.int .i64 3) := HX.out.cell 0
  have hne := Nat.ne_of_lt (lt_of_cell c0)
  simp only at hne
  go_cut [3, 4] (fun u3 u4 wx => ∃ wy, wy = wx ∧ u3 = .int .i64 1 ∧ (∃ h, u4 = .pointer (some ⟨h, 0, none⟩)) ∧ Below w1.heap.size w1 wx)
  case first =>
    go_region_held3 (fun w' => w'.cell? ⟨g, 0, none⟩ = some (.int .i64 3)) (first | with_reducible exact c0 | with_reducible exact kdrew c0 | with_reducible exact kdrewN _ c0 | with_reducible exact kdrew (kalloc _ c0) | with_reducible exact kdrewN _ (kalloc _ c0)) (first | (go_at_call 97; (with_reducible refine (uses_spec 3 1 _ (by omega) (by omega) rfl).mono ?_); rintro e w' ⟨rfl, rfl⟩) | (go_at_call 98; (with_reducible refine (part_is 3 (-1) _ (by omega) (by omega) rfl).mono ?_); rintro e w' ⟨rfl, rfl⟩))
    all_goals
      go_wp2_with fail
      go_meet
      exact ⟨_, rfl, rfl, ⟨_, rfl⟩, ((Below.refl _ _).alloc (Nat.le_refl _) _).drew⟩
  case rest =>
  obtain ⟨w2, rfl, rfl, ⟨h, rfl⟩, hb⟩ := hcut
  have HX2 := Lib.hid (HX.out.pure hb)
  have HB2 := Lib.hid (pure_below HB.out hb)
  have d0 : w2.cell? ⟨g, 0, none⟩ = some (.int .i64 3) := HX2.out.cell 0
  have d1 : w2.cell? ⟨g, 1, none⟩ = some (.int .i64 n) := HX2.out.cell 1
  have d2 : w2.cell? ⟨g, 2, none⟩ = some (.int .u64 (((0 : Nat) : Nat) : Int)) := HX2.out.cell 2
  have d3 : w2.cell? ⟨g, 3, none⟩ = some (.string ⟨(([] : List UInt8)).toArray⟩) := HX2.out.cell 3
  have d4 : w2.cell? ⟨g, 4, none⟩ = some (.slice A 0 ac) := HX2.out.cell 4
  have d5 : w2.cell? ⟨g, 5, none⟩ = some (.slice B 0 bc) := HX2.out.cell 5
  clear hb c0 hne
  go_wp2_with fail
  go_at_call 100
  refine (cont_none B bc _ _).mono ?_
  rintro e w3 ⟨rfl, rfl⟩
  clear d0 d1 d2 d3 d4 d5
  go_wp2_with fail
  go_ret
  exact ⟨rfl, HB2.out⟩
set_option maxRecDepth 100000 in
set_option maxHeartbeats 2000000 in
theorem such_8 (n : Int) (A : Option Addr) (ac : Nat) (B : Option Addr) (bc : Nat) (w : World) : Calls Tryz.prog 54 #[.agg #[.int .i64 8, .int .i64 n, .int .u64 ((0 : Nat) : Int), .string ⟨([] : List UInt8).toArray⟩, .slice A 0 ac, .slice B 0 bc]] w fun e w' => e = .returned (.bool true) ∧ Below w.heap.size w w' := by
  have HB := Lib.hid (show Below w.heap.size w (w.alloc (.cells #[.int .i64 8, .int .i64 n, .int .u64 ((0 : Nat) : Int), .string ⟨([] : List UInt8).toArray⟩, .slice A 0 ac, .slice B 0 bc] 26)) from (Below.refl _ _).alloc (Nat.le_refl _) _)
  have HX := Lib.hid (Blk.new w 26 #[.int .i64 8, .int .i64 n, .int .u64 ((0 : Nat) : Int), .string ⟨([] : List UInt8).toArray⟩, .slice A 0 ac, .slice B 0 bc])
  go_enter Tryz.func54, Tryz.ntmps54
  go_upto_region 3 with fail
  generalize w.alloc (.cells #[.int .i64 8, .int .i64 n, .int .u64 ((0 : Nat) : Int), .string ⟨([] : List UInt8).toArray⟩, .slice A 0 ac, .slice B 0 bc] 26) = w1 at HB HX ⊢
  generalize w.heap.size = g at HX ⊢
  have c0 : w1.cell? ⟨g, 0, none⟩ = some (.int .i64 8) := HX.out.cell 0
  have hne := Nat.ne_of_lt (lt_of_cell c0)
  simp only at hne
  go_cut [3, 4] (fun u3 u4 wx => ∃ wy, wy = wx ∧ u3 = .int .i64 1 ∧ (∃ h, u4 = .pointer (some ⟨h, 0, none⟩)) ∧ Below w1.heap.size w1 wx)
  case first =>
    go_region_held3 (fun w' => w'.cell? ⟨g, 0, none⟩ = some (.int .i64 8)) (first | with_reducible exact c0 | with_reducible exact kdrew c0 | with_reducible exact kdrewN _ c0 | with_reducible exact kdrew (kalloc _ c0) | with_reducible exact kdrewN _ (kalloc _ c0)) (first | (go_at_call 97; (with_reducible refine (uses_spec 8 1 _ (by omega) (by omega) rfl).mono ?_); rintro e w' ⟨rfl, rfl⟩) | (go_at_call 98; (with_reducible refine (part_is 8 (-1) _ (by omega) (by omega) rfl).mono ?_); rintro e w' ⟨rfl, rfl⟩))
    all_goals
      go_wp2_with fail
      go_meet
      exact ⟨_, rfl, rfl, ⟨_, rfl⟩, ((Below.refl _ _).alloc (Nat.le_refl _) _).drew⟩
  case rest =>
  obtain ⟨w2, rfl, rfl, ⟨h, rfl⟩, hb⟩ := hcut
  have HX2 := Lib.hid (HX.out.pure hb)
  have HB2 := Lib.hid (pure_below HB.out hb)
  have d0 : w2.cell? ⟨g, 0, none⟩ = some (.int .i64 8) := HX2.out.cell 0
  have d1 : w2.cell? ⟨g, 1, none⟩ = some (.int .i64 n) := HX2.out.cell 1
  have d2 : w2.cell? ⟨g, 2, none⟩ = some (.int .u64 (((0 : Nat) : Nat) : Int)) := HX2.out.cell 2
  have d3 : w2.cell? ⟨g, 3, none⟩ = some (.string ⟨(([] : List UInt8)).toArray⟩) := HX2.out.cell 3
  have d4 : w2.cell? ⟨g, 4, none⟩ = some (.slice A 0 ac) := HX2.out.cell 4
  have d5 : w2.cell? ⟨g, 5, none⟩ = some (.slice B 0 bc) := HX2.out.cell 5
  clear hb c0 hne
  go_wp2_with fail
  go_at_call 100
  refine (cont_none B bc _ _).mono ?_
  rintro e w3 ⟨rfl, rfl⟩
  clear d0 d1 d2 d3 d4 d5
  go_wp2_with fail
  go_ret
  exact ⟨rfl, HB2.out⟩
end Go.Proofs.YtjhigmgkmmjlfaaGreat

namespace Go.Proofs.YtjhigmgkmmjlfaaGreat
open Go.RowKit Go.Acc
set_option maxRecDepth 100000 in
set_option maxHeartbeats 2000000 in
theorem such_4 (u : Nat) (A : Option Addr) (ac : Nat) (B : Option Addr) (bc : Nat) (w : World) : Calls Tryz.prog 54 #[.agg #[.int .i64 4, .int .i64 0, .int .u64 (u : Int), .string ⟨([] : List UInt8).toArray⟩, .slice A 0 ac, .slice B 0 bc]] w fun e w' => e = .returned (.bool true) ∧ Below w.heap.size w w' := by
  have HB := Lib.hid (show Below w.heap.size w (w.alloc (.cells #[.int .i64 4, .int .i64 0, .int .u64 (u : Int), .string ⟨([] : List UInt8).toArray⟩, .slice A 0 ac, .slice B 0 bc] 26)) from (Below.refl _ _).alloc (Nat.le_refl _) _)
  have HX := Lib.hid (Blk.new w 26 #[.int .i64 4, .int .i64 0, .int .u64 (u : Int), .string ⟨([] : List UInt8).toArray⟩, .slice A 0 ac, .slice B 0 bc])
  go_enter Tryz.func54, Tryz.ntmps54
  go_upto_region 3 with fail
  generalize w.alloc (.cells #[.int .i64 4, .int .i64 0, .int .u64 (u : Int), .string ⟨([] : List UInt8).toArray⟩, .slice A 0 ac, .slice B 0 bc] 26) = w1 at HB HX ⊢
  generalize w.heap.size = g at HX ⊢
  have c0 : w1.cell? ⟨g, 0, none⟩ = some (.int .i64 4) := HX.out.cell 0
  have hne := Nat.ne_of_lt (lt_of_cell c0)
  simp only at hne
  go_cut [3, 4] (fun u3 u4 wx => ∃ wy, wy = wx ∧ u3 = .int .i64 2 ∧ (∃ h, u4 = .pointer (some ⟨h, 0, none⟩)) ∧ Below w1.heap.size w1 wx)
  case first =>
    go_region_held3 (fun w' => w'.cell? ⟨g, 0, none⟩ = some (.int .i64 4)) (first | with_reducible exact c0 | with_reducible exact kdrew c0 | with_reducible exact kdrewN _ c0 | with_reducible exact kdrew (kalloc _ c0) | with_reducible exact kdrewN _ (kalloc _ c0)) (first | (go_at_call 97; (with_reducible refine (uses_spec 4 2 _ (by omega) (by omega) rfl).mono ?_); rintro e w' ⟨rfl, rfl⟩) | (go_at_call 98; (with_reducible refine (part_is 4 (-1) _ (by omega) (by omega) rfl).mono ?_); rintro e w' ⟨rfl, rfl⟩))
    all_goals
      go_wp2_with fail
      go_meet
      exact ⟨_, rfl, rfl, ⟨_, rfl⟩, ((Below.refl _ _).alloc (Nat.le_refl _) _).drew⟩
  case rest =>
  obtain ⟨w2, rfl, rfl, ⟨h, rfl⟩, hb⟩ := hcut
  have HX2 := Lib.hid (HX.out.pure hb)
  have HB2 := Lib.hid (pure_below HB.out hb)
  have d0 : w2.cell? ⟨g, 0, none⟩ = some (.int .i64 4) := HX2.out.cell 0
  have d1 : w2.cell? ⟨g, 1, none⟩ = some (.int .i64 0) := HX2.out.cell 1
  have d2 : w2.cell? ⟨g, 2, none⟩ = some (.int .u64 ((u : Nat) : Int)) := HX2.out.cell 2
  have d3 : w2.cell? ⟨g, 3, none⟩ = some (.string ⟨(([] : List UInt8)).toArray⟩) := HX2.out.cell 3
  have d4 : w2.cell? ⟨g, 4, none⟩ = some (.slice A 0 ac) := HX2.out.cell 4
  have d5 : w2.cell? ⟨g, 5, none⟩ = some (.slice B 0 bc) := HX2.out.cell 5
  clear hb c0 hne
  go_wp2_with fail
  go_at_call 100
  refine (cont_none B bc _ _).mono ?_
  rintro e w3 ⟨rfl, rfl⟩
  clear d0 d1 d2 d3 d4 d5
  go_wp2_with fail
  go_ret
  exact ⟨rfl, HB2.out⟩
set_option maxRecDepth 100000 in
set_option maxHeartbeats 2000000 in
theorem such_9 (u : Nat) (A : Option Addr) (ac : Nat) (B : Option Addr) (bc : Nat) (w : World) : Calls Tryz.prog 54 #[.agg #[.int .i64 9, .int .i64 0, .int .u64 (u : Int), .string ⟨([] : List UInt8).toArray⟩, .slice A 0 ac, .slice B 0 bc]] w fun e w' => e = .returned (.bool true) ∧ Below w.heap.size w w' := by
  have HB := Lib.hid (show Below w.heap.size w (w.alloc (.cells #[.int .i64 9, .int .i64 0, .int .u64 (u : Int), .string ⟨([] : List UInt8).toArray⟩, .slice A 0 ac, .slice B 0 bc] 26)) from (Below.refl _ _).alloc (Nat.le_refl _) _)
  have HX := Lib.hid (Blk.new w 26 #[.int .i64 9, .int .i64 0, .int .u64 (u : Int), .string ⟨([] : List UInt8).toArray⟩, .slice A 0 ac, .slice B 0 bc])
  go_enter Tryz.func54, Tryz.ntmps54
  go_upto_region 3 with fail
  generalize w.alloc (.cells #[.int .i64 9, .int .i64 0, .int .u64 (u : Int), .string ⟨([] : List UInt8).toArray⟩, .slice A 0 ac, .slice B 0 bc] 26) = w1 at HB HX ⊢
  generalize w.heap.size = g at HX ⊢
  have c0 : w1.cell? ⟨g, 0, none⟩ = some (.int .i64 9) := HX.out.cell 0
  have hne := Nat.ne_of_lt (lt_of_cell c0)
  simp only at hne
  go_cut [3, 4] (fun u3 u4 wx => ∃ wy, wy = wx ∧ u3 = .int .i64 2 ∧ (∃ h, u4 = .pointer (some ⟨h, 0, none⟩)) ∧ Below w1.heap.size w1 wx)
  case first =>
    go_region_held3 (fun w' => w'.cell? ⟨g, 0, none⟩ = some (.int .i64 9)) (first | with_reducible exact c0 | with_reducible exact kdrew c0 | with_reducible exact kdrewN _ c0 | with_reducible exact kdrew (kalloc _ c0) | with_reducible exact kdrewN _ (kalloc _ c0)) (first | (go_at_call 97; (with_reducible refine (uses_spec 9 2 _ (by omega) (by omega) rfl).mono ?_); rintro e w' ⟨rfl, rfl⟩) | (go_at_call 98; (with_reducible refine (part_is 9 (-1) _ (by omega) (by omega) rfl).mono ?_); rintro e w' ⟨rfl, rfl⟩))
    all_goals
      go_wp2_with fail
      go_meet
      exact ⟨_, rfl, rfl, ⟨_, rfl⟩, ((Below.refl _ _).alloc (Nat.le_refl _) _).drew⟩
  case rest =>
  obtain ⟨w2, rfl, rfl, ⟨h, rfl⟩, hb⟩ := hcut
  have HX2 := Lib.hid (HX.out.pure hb)
  have HB2 := Lib.hid (pure_below HB.out hb)
  have d0 : w2.cell? ⟨g, 0, none⟩ = some (.int .i64 9) := HX2.out.cell 0
  have d1 : w2.cell? ⟨g, 1, none⟩ = some (.int .i64 0) := HX2.out.cell 1
  have d2 : w2.cell? ⟨g, 2, none⟩ = some (.int .u64 ((u : Nat) : Int)) := HX2.out.cell 2
  have d3 : w2.cell? ⟨g, 3, none⟩ = some (.string ⟨(([] : List UInt8)).toArray⟩) := HX2.out.cell 3
  have d4 : w2.cell? ⟨g, 4, none⟩ = some (.slice A 0 ac) := HX2.out.cell 4
  have d5 : w2.cell? ⟨g, 5, none⟩ = some (.slice B 0 bc) := HX2.out.cell 5
  clear hb c0 hne
  go_wp2_with fail
  go_at_call 100
  refine (cont_none B bc _ _).mono ?_
  rintro e w3 ⟨rfl, rfl⟩
  clear d0 d1 d2 d3 d4 d5
  go_wp2_with fail
  go_ret
  exact ⟨rfl, HB2.out⟩
set_option maxRecDepth 100000 in
set_option maxHeartbeats 2000000 in
theorem such_5 (s : List UInt8) (A : Option Addr) (ac : Nat) (B : Option Addr) (bc : Nat) (w : World) : Calls Tryz.prog 54 #[.agg #[.int .i64 5, .int .i64 0, .int .u64 ((0 : Nat) : Int), .string ⟨s.toArray⟩, .slice A 0 ac, .slice B 0 bc]] w fun e w' => e = .returned (.bool true) ∧ Below w.heap.size w w' := by
  have HB := Lib.hid (show Below w.heap.size w (w.alloc (.cells #[.int .i64 5, .int .i64 0, .int .u64 ((0 : Nat) : Int), .string ⟨s.toArray⟩, .slice A 0 ac, .slice B 0 bc] 26)) from (Below.refl _ _).alloc (Nat.le_refl _) _)
  have HX := Lib.hid (Blk.new w 26 #[.int .i64 5, .int .i64 0, .int .u64 ((0 : Nat) : Int), .string ⟨s.toArray⟩, .slice A 0 ac, .slice B 0 bc])
  go_enter Tryz.func54, Tryz.ntmps54
  go_upto_region 3 with fail
  generalize w.alloc (.cells #[.int .i64 5, .int .i64 0, .int .u64 ((0 : Nat) : Int), .string ⟨s.toArray⟩, .slice A 0 ac, .slice B 0 bc] 26) = w1 at HB HX ⊢
  generalize w.heap.size = g at HX ⊢
  have c0 : w1.cell? ⟨g, 0, none⟩ = some (.int .i64 5) := HX.out.cell 0
  have hne := Nat.ne_of_lt (lt_of_cell c0)
  simp only at hne
  go_cut [3, 4] (fun u3 u4 wx => ∃ wy, wy = wx ∧ u3 = .int .i64 4 ∧ (∃ h, u4 = .pointer (some ⟨h, 0, none⟩)) ∧ Below w1.heap.size w1 wx)
  case first =>
    go_region_held3 (fun w' => w'.cell? ⟨g, 0, none⟩ = some (.int .i64 5)) (first | with_reducible exact c0 | with_reducible exact kdrew c0 | with_reducible exact kdrewN _ c0 | with_reducible exact kdrew (kalloc _ c0) | with_reducible exact kdrewN _ (kalloc _ c0)) (first | (go_at_call 97; (with_reducible refine (uses_spec 5 4 _ (by omega) (by omega) rfl).mono ?_); rintro e w' ⟨rfl, rfl⟩) | (go_at_call 98; (with_reducible refine (part_is 5 (-1) _ (by omega) (by omega) rfl).mono ?_); rintro e w' ⟨rfl, rfl⟩))
    all_goals
      go_wp2_with fail
      go_meet
      exact ⟨_, rfl, rfl, ⟨_, rfl⟩, ((Below.refl _ _).alloc (Nat.le_refl _) _).drew⟩
  case rest =>
  obtain ⟨w2, rfl, rfl, ⟨h, rfl⟩, hb⟩ := hcut
  have HX2 := Lib.hid (HX.out.pure hb)
  have HB2 := Lib.hid (pure_below HB.out hb)
  have d0 : w2.cell? ⟨g, 0, none⟩ = some (.int .i64 5) := HX2.out.cell 0
  have d1 : w2.cell? ⟨g, 1, none⟩ = some (.int .i64 0) := HX2.out.cell 1
  have d2 : w2.cell? ⟨g, 2, none⟩ = some (.int .u64 (((0 : Nat) : Nat) : Int)) := HX2.out.cell 2
  have d3 : w2.cell? ⟨g, 3, none⟩ = some (.string ⟨(s).toArray⟩) := HX2.out.cell 3
  have d4 : w2.cell? ⟨g, 4, none⟩ = some (.slice A 0 ac) := HX2.out.cell 4
  have d5 : w2.cell? ⟨g, 5, none⟩ = some (.slice B 0 bc) := HX2.out.cell 5
  clear hb c0 hne
  go_wp2_with fail
  go_at_call 100
  refine (cont_none B bc _ _).mono ?_
  rintro e w3 ⟨rfl, rfl⟩
  clear d0 d1 d2 d3 d4 d5
  go_wp2_with fail
  go_ret
  exact ⟨rfl, HB2.out⟩
set_option maxRecDepth 100000 in
set_option maxHeartbeats 2000000 in
theorem such_6 (s : List UInt8) (A : Option Addr) (ac : Nat) (B : Option Addr) (bc : Nat) (w : World) : Calls Tryz.prog 54 #[.agg #[.int .i64 6, .int .i64 0, .int .u64 ((0 : Nat) : Int), .string ⟨s.toArray⟩, .slice A 0 ac, .slice B 0 bc]] w fun e w' => e = .returned (.bool true) ∧ Below w.heap.size w w' := by
  have HB := Lib.hid (show Below w.heap.size w (w.alloc (.cells #[.int .i64 6, .int .i64 0, .int .u64 ((0 : Nat) : Int), .string ⟨s.toArray⟩, .slice A 0 ac, .slice B 0 bc] 26)) from (Below.refl _ _).alloc (Nat.le_refl _) _)
  have HX := Lib.hid (Blk.new w 26 #[.int .i64 6, .int .i64 0, .int .u64 ((0 : Nat) : Int), .string ⟨s.toArray⟩, .slice A 0 ac, .slice B 0 bc])
  go_enter Tryz.func54, Tryz.ntmps54
  go_upto_region 3 with fail
  generalize w.alloc (.cells #[.int .i64 6, .int .i64 0, .int .u64 ((0 : Nat) : Int), .string ⟨s.toArray⟩, .slice A 0 ac, .slice B 0 bc] 26) = w1 at HB HX ⊢
  generalize w.heap.size = g at HX ⊢
  have c0 : w1.cell? ⟨g, 0, none⟩ = some (.int .i64 6) := HX.out.cell 0
  have hne := Nat.ne_of_lt (lt_of_cell c0)
  simp only at hne
  go_cut [3, 4] (fun u3 u4 wx => ∃ wy, wy = wx ∧ u3 = .int .i64 4 ∧ (∃ h, u4 = .pointer (some ⟨h, 0, none⟩)) ∧ Below w1.heap.size w1 wx)
  case first =>
    go_region_held3 (fun w' => w'.cell? ⟨g, 0, none⟩ = some (.int .i64 6)) (first | with_reducible exact c0 | with_reducible exact kdrew c0 | with_reducible exact kdrewN _ c0 | with_reducible exact kdrew (kalloc _ c0) | with_reducible exact kdrewN _ (kalloc _ c0)) (first | (go_at_call 97; (with_reducible refine (uses_spec 6 4 _ (by omega) (by omega) rfl).mono ?_); rintro e w' ⟨rfl, rfl⟩) | (go_at_call 98; (with_reducible refine (part_is 6 (-1) _ (by omega) (by omega) rfl).mono ?_); rintro e w' ⟨rfl, rfl⟩))
    all_goals
      go_wp2_with fail
      go_meet
      exact ⟨_, rfl, rfl, ⟨_, rfl⟩, ((Below.refl _ _).alloc (Nat.le_refl _) _).drew⟩
  case rest =>
  obtain ⟨w2, rfl, rfl, ⟨h, rfl⟩, hb⟩ := hcut
  have HX2 := Lib.hid (HX.out.pure hb)
  have HB2 := Lib.hid (pure_below HB.out hb)
  have d0 : w2.cell? ⟨g, 0, none⟩ = some (.int .i64 6) := HX2.out.cell 0
  have d1 : w2.cell? ⟨g, 1, none⟩ = some (.int .i64 0) := HX2.out.cell 1
  have d2 : w2.cell? ⟨g, 2, none⟩ = some (.int .u64 (((0 : Nat) : Nat) : Int)) := HX2.out.cell 2
  have d3 : w2.cell? ⟨g, 3, none⟩ = some (.string ⟨(s).toArray⟩) := HX2.out.cell 3
  have d4 : w2.cell? ⟨g, 4, none⟩ = some (.slice A 0 ac) := HX2.out.cell 4
  have d5 : w2.cell? ⟨g, 5, none⟩ = some (.slice B 0 bc) := HX2.out.cell 5
  clear hb c0 hne
  go_wp2_with fail
  go_at_call 100
  refine (cont_none B bc _ _).mono ?_
  rintro e w3 ⟨rfl, rfl⟩
  clear d0 d1 d2 d3 d4 d5
  go_wp2_with fail
  go_ret
  exact ⟨rfl, HB2.out⟩
set_option maxRecDepth 100000 in
set_option maxHeartbeats 2000000 in
theorem such_7 (s : List UInt8) (A : Option Addr) (ac : Nat) (B : Option Addr) (bc : Nat) (w : World) : Calls Tryz.prog 54 #[.agg #[.int .i64 7, .int .i64 0, .int .u64 ((0 : Nat) : Int), .string ⟨s.toArray⟩, .slice A 0 ac, .slice B 0 bc]] w fun e w' => e = .returned (.bool true) ∧ Below w.heap.size w w' := by
  have HB := Lib.hid (show Below w.heap.size w (w.alloc (.cells #[.int .i64 7, .int .i64 0, .int .u64 ((0 : Nat) : Int), .string ⟨s.toArray⟩, .slice A 0 ac, .slice B 0 bc] 26)) from (Below.refl _ _).alloc (Nat.le_refl _) _)
  have HX := Lib.hid (Blk.new w 26 #[.int .i64 7, .int .i64 0, .int .u64 ((0 : Nat) : Int), .string ⟨s.toArray⟩, .slice A 0 ac, .slice B 0 bc])
  go_enter Tryz.func54, Tryz.ntmps54
  go_upto_region 3 with fail
  generalize w.alloc (.cells #[.int .i64 7, .int .i64 0, .int .u64 ((0 : Nat) : Int), .string ⟨s.toArray⟩, .slice A 0 ac, .slice B 0 bc] 26) = w1 at HB HX ⊢
  generalize w.heap.size = g at HX ⊢
  have c0 : w1.cell? ⟨g, 0, none⟩ = some (.int .i64 7) := HX.out.cell 0
  have hne := Nat.ne_of_lt (lt_of_cell c0)
  simp only at hne
  go_cut [3, 4] (fun u3 u4 wx => ∃ wy, wy = wx ∧ u3 = .int .i64 4 ∧ (∃ h, u4 = .pointer (some ⟨h, 0, none⟩)) ∧ Below w1.heap.size w1 wx)
  case first =>
    go_region_held3 (fun w' => w'.cell? ⟨g, 0, none⟩ = some (.int .i64 7)) (first | with_reducible exact c0 | with_reducible exact kdrew c0 | with_reducible exact kdrewN _ c0 | with_reducible exact kdrew (kalloc _ c0) | with_reducible exact kdrewN _ (kalloc _ c0)) (first | (go_at_call 97; (with_reducible refine (uses_spec 7 4 _ (by omega) (by omega) rfl).mono ?_); rintro e w' ⟨rfl, rfl⟩) | (go_at_call 98; (with_reducible refine (part_is 7 (-1) _ (by omega) (by omega) rfl).mono ?_); rintro e w' ⟨rfl, rfl⟩))
    all_goals
      go_wp2_with fail
      go_meet
      exact ⟨_, rfl, rfl, ⟨_, rfl⟩, ((Below.refl _ _).alloc (Nat.le_refl _) _).drew⟩
  case rest =>
  obtain ⟨w2, rfl, rfl, ⟨h, rfl⟩, hb⟩ := hcut
  have HX2 := Lib.hid (HX.out.pure hb)
  have HB2 := Lib.hid (pure_below HB.out hb)
  have d0 : w2.cell? ⟨g, 0, none⟩ = some (.int .i64 7) := HX2.out.cell 0
  have d1 : w2.cell? ⟨g, 1, none⟩ = some (.int .i64 0) := HX2.out.cell 1
  have d2 : w2.cell? ⟨g, 2, none⟩ = some (.int .u64 (((0 : Nat) : Nat) : Int)) := HX2.out.cell 2
  have d3 : w2.cell? ⟨g, 3, none⟩ = some (.string ⟨(s).toArray⟩) := HX2.out.cell 3
  have d4 : w2.cell? ⟨g, 4, none⟩ = some (.slice A 0 ac) := HX2.out.cell 4
  have d5 : w2.cell? ⟨g, 5, none⟩ = some (.slice B 0 bc) := HX2.out.cell 5
  clear hb c0 hne
  go_wp2_with fail
  go_at_call 100
  refine (cont_none B bc _ _).mono ?_
  rintro e w3 ⟨rfl, rfl⟩
  clear d0 d1 d2 d3 d4 d5
  go_wp2_with fail
  go_ret
  exact ⟨rfl, HB2.out⟩
end Go.Proofs.YtjhigmgkmmjlfaaGreat
