/-
  Package tree: a valid node without children passes such.
  Packages strings and tree: a byte 00 in a string; the keys of a node without keys; key.Check.
-/
import Derived.Test.YtjhigmgkmmjlfaaGreatQ17
import Derived.Lib.BytesEntry
namespace Go.Proofs.YtjhigmgkmmjlfaaGreat
open Go.RowKit Go.Acc
set_option maxRecDepth 100000 in
set_option maxHeartbeats 2000000 in
theorem such_4 (u : Nat) (A : Option Addr) (ac : Nat) (B : Option Addr) (bc : Nat) (w : World) : Calls Tryz.prog 54 #[.agg #[.int .i64 4, .int .i64 0, .int .u64 (u : Int), .string ⟨([] : List UInt8).toArray⟩, .slice A 0 ac, .slice B 0 bc]] w fun e w' => e = .returned (.bool true) ∧ Below w.heap.size w w' := by
  have HB := Lib.hid (show Below w.heap.size w (w.alloc (.cells #[.int .i64 4, .int .i64 0, .int .u64 (u : Int), .string ⟨([] : List UInt8).toArray⟩, .slice A 0 ac, .slice B 0 bc] 26)) from (Below.refl _ _).alloc (Nat.le_refl _) _)
  have HX := Lib.hid (Blk.new w 26 #[.int .i64 4, .int .i64 0, .int .u64 (u : Int), .string ⟨([] : List UInt8).toArray⟩, .slice A 0 ac, .slice B 0 bc])
  go_enter Tryz.func54, Tryz.ntmps54
  go_upto_region 3 with fail
  generalize w.alloc (.cells #[.int .i64 4, .int .i64 0, .int .u64 (u : Int), .string ⟨([] : List UInt8).toArray⟩, .slice A 0 ac, .slice B 0 bc] 26) = w1 at HB HX ⊢
  generalize w.heap.size = g at HX ⊢
  have c0 : w1.cell? ⟨g, 0, none⟩ = some (.int .i64 4) := HX.out.cell 0
  have hne := Nat.ne_of_lt (lt_of_cell c0)
  simp only at hne
  go_cut [3, 4] (fun u3 u4 wx => ∃ wy, wy = wx ∧ u3 = .int .i64 2 ∧ (∃ h, u4 = .pointer (some ⟨h, 0, none⟩)) ∧ Below w1.heap.size w1 wx)
  case first =>
    go_region_held3 (fun w' => w'.cell? ⟨g, 0, none⟩ = some (.int .i64 4)) (first | with_reducible exact c0 | with_reducible exact kdrew c0 | with_reducible exact kdrewN _ c0 | with_reducible exact kdrew (kalloc _ c0) | with_reducible exact kdrewN _ (kalloc _ c0)) (first | (go_at_call 97; (with_reducible refine (uses_spec 4 2 _ (by omega) (by omega) rfl).mono ?_); rintro e w' ⟨rfl, rfl⟩) | (go_at_call 98; (with_reducible refine (part_is 4 (-1) _ (by omega) (by omega) rfl).mono ?_); rintro e w' ⟨rfl, rfl⟩))
    all_goals
      go_wp2_with fail
      go_meet
      exact ⟨_, rfl, rfl, ⟨_, rfl⟩, ((Below.refl _ _).alloc (Nat.le_refl _) _).drew⟩
  case rest =>
  obtain ⟨w2, rfl, rfl, ⟨h, rfl⟩, hb⟩ := hcut
  have HX2 := Lib.hid (HX.out.pure hb)
  have HB2 := Lib.hid (pure_below HB.out hb)
  have d0 : w2.cell? ⟨g, 0, none⟩ = some (.int .i64 4) := HX2.out.cell 0
  have d1 : w2.cell? ⟨g, 1, none⟩ = some (.int .i64 0) := HX2.out.cell 1
  have d2 : w2.cell? ⟨g, 2, none⟩ = some (.int .u64 ((u : Nat) : Int)) := HX2.out.cell 2
  have d3 : w2.cell? ⟨g, 3, none⟩ = some (.string ⟨(([] : List UInt8)).toArray⟩) := HX2.out.cell 3
  have d4 : w2.cell? ⟨g, 4, none⟩ = some (.slice A 0 ac) := HX2.out.cell 4
  have d5 : w2.cell? ⟨g, 5, none⟩ = some (.slice B 0 bc) := HX2.out.cell 5
  clear hb c0 hne
  go_wp2_with fail
  go_at_call 100
  refine (cont_none B bc _ _).mono ?_
  rintro e w3 ⟨rfl, rfl⟩
  clear d0 d1 d2 d3 d4 d5
  go_wp2_with fail
  go_ret
  exact ⟨rfl, HB2.out⟩
set_option maxRecDepth 100000 in
set_option maxHeartbeats 2000000 in
theorem such_9 (u : Nat) (A : Option Addr) (ac : Nat) (B : Option Addr) (bc : Nat) (w : World) : Calls Tryz.prog 54 #[.agg #[.int .i64 9, .int .i64 0, .int .u64 (u : Int), .string ⟨([] : List UInt8).toArray⟩, .slice A 0 ac, .slice B 0 bc]] w fun e w' => e = .returned (.bool true) ∧ Below w.heap.size w w' := by
  have HB := Lib.hid (show Below w.heap.size w (w.alloc (.cells #[.int .i64 9, .int .i64 0, .int .u64 (u : Int), .string ⟨([] : List UInt8).toArray⟩, .slice A 0 ac, .slice B 0 bc] 26)) from (Below.refl _ _).alloc (Nat.le_refl _) _)
  have HX := Lib.hid (Blk.new w 26 #[.int .i64 9, .int .i64 0, .int .u64 (u : Int), .string ⟨([] : List UInt8).toArray⟩, .slice A 0 ac, .slice B 0 bc])
  go_enter Tryz.func54, Tryz.ntmps54
  go_upto_region 3 with fail
  generalize w.alloc (.cells #[.int .i64 9, .int .i64 0, .int .u64 (u : Int), .string ⟨([] : List UInt8).toArray⟩, .slice A 0 ac, .slice B 0 bc] 26) = w1 at HB HX ⊢
  generalize w.heap.size = g at HX ⊢
  have c0 : w1.cell? ⟨g, 0, none⟩ = some (.int .i64 9) := HX.out.cell 0
  have hne := Nat.ne_of_lt (lt_of_cell c0)
  simp only at hne
  go_cut [3, 4] (fun u3 u4 wx => ∃ wy, wy = wx ∧ u3 = .int .i64 2 ∧ (∃ h, u4 = .pointer (some ⟨h, 0, none⟩)) ∧ Below w1.heap.size w1 wx)
  case first =>
    go_region_held3 (fun w' => w'.cell? ⟨g, 0, none⟩ = some (.int .i64 9)) (first | with_reducible exact c0 | with_reducible exact kdrew c0 | with_reducible exact kdrewN _ c0 | with_reducible exact kdrew (kalloc _ c0) | with_reducible exact kdrewN _ (kalloc _ c0)) (first | (go_at_call 97; (with_reducible refine (uses_spec 9 2 _ (by omega) (by omega) rfl).mono ?_); rintro e w' ⟨rfl, rfl⟩) | (go_at_call 98; (with_reducible refine (part_is 9 (-1) _ (by omega) (by omega) rfl).mono ?_); rintro e w' ⟨rfl, rfl⟩))
    all_goals
      go_wp2_with fail
      go_meet
      exact ⟨_, rfl, rfl, ⟨_, rfl⟩, ((Below.refl _ _).alloc (Nat.le_refl _) _).drew⟩
  case rest =>
  obtain ⟨w2, rfl, rfl, ⟨h, rfl⟩, hb⟩ := hcut
  have HX2 := Lib.hid (HX.out.pure hb)
  have HB2 := Lib.hid (pure_below HB.out hb)
  have d0 : w2.cell? ⟨g, 0, none⟩ = some (.int .i64 9) := HX2.out.cell 0
  have d1 : w2.cell? ⟨g, 1, none⟩ = some (.int .i64 0) := HX2.out.cell 1
  have d2 : w2.cell? ⟨g, 2, none⟩ = some (.int .u64 ((u : Nat) : Int)) := HX2.out.cell 2
  have d3 : w2.cell? ⟨g, 3, none⟩ = some (.string ⟨(([] : List UInt8)).toArray⟩) := HX2.out.cell 3
  have d4 : w2.cell? ⟨g, 4, none⟩ = some (.slice A 0 ac) := HX2.out.cell 4
  have d5 : w2.cell? ⟨g, 5, none⟩ = some (.slice B 0 bc) := HX2.out.cell 5
  clear hb c0 hne
  go_wp2_with fail
  go_at_call 100
  refine (cont_none B bc _ _).mono ?_
  rintro e w3 ⟨rfl, rfl⟩
  clear d0 d1 d2 d3 d4 d5
  go_wp2_with fail
  go_ret
  exact ⟨rfl, HB2.out⟩
set_option maxRecDepth 100000 in
set_option maxHeartbeats 2000000 in
theorem such_5 (s : List UInt8) (A : Option Addr) (ac : Nat) (B : Option Addr) (bc : Nat) (w : World) : Calls Tryz.prog 54 #[.agg #[.int .i64 5, .int .i64 0, .int .u64 ((0 : Nat) : Int), .string ⟨s.toArray⟩, .slice A 0 ac, .slice B 0 bc]] w fun e w' => e = .returned (.bool true) ∧ Below w.heap.size w w' := by
  have HB := Lib.hid (show Below w.heap.size w (w.alloc (.cells #[.int .i64 5, .int .i64 0, .int .u64 ((0 : Nat) : Int), .string ⟨s.toArray⟩, .slice A 0 ac, .slice B 0 bc] 26)) from (Below.refl _ _).alloc (Nat.le_refl _) _)
  have HX := Lib.hid (Blk.new w 26 #[.int .i64 5, .int .i64 0, .int .u64 ((0 : Nat) : Int), .string ⟨s.toArray⟩, .slice A 0 ac, .slice B 0 bc])
  go_enter Tryz.func54, Tryz.ntmps54
  go_upto_region 3 with fail
  generalize w.alloc (.cells #[.int .i64 5, .int .i64 0, .int .u64 ((0 : Nat) : Int), .string ⟨s.toArray⟩, .slice A 0 ac, .slice B 0 bc] 26) = w1 at HB HX ⊢
  generalize w.heap.size = g at HX ⊢
  have c0 : w1.cell? ⟨g, 0, none⟩ = some (.int .i64 5) := HX.out.cell 0
  have hne := Nat.ne_of_lt (lt_of_cell c0)
  simp only at hne
  go_cut [3, 4] (fun u3 u4 wx => ∃ wy, wy = wx ∧ u3 = .int .i64 4 ∧ (∃ h, u4 = .pointer (some ⟨h, 0, none⟩)) ∧ Below w1.heap.size w1 wx)
  case first =>
    go_region_held3 (fun w' => w'.cell? ⟨g, 0, none⟩ = some (.int .i64 5)) (first | with_reducible exact c0 | with_reducible exact kdrew c0 | with_reducible exact kdrewN _ c0 | with_reducible exact kdrew (kalloc _ c0) | with_reducible exact kdrewN _ (kalloc _ c0)) (first | (go_at_call 97; (with_reducible refine (uses_spec 5 4 _ (by omega) (by omega) rfl).mono ?_); rintro e w' ⟨rfl, rfl⟩) | (go_at_call 98; (with_reducible refine (part_is 5 (-1) _ (by omega) (by omega) rfl).mono ?_); rintro e w' ⟨rfl, rfl⟩))
    all_goals
      go_wp2_with fail
      go_meet
      exact ⟨_, rfl, rfl, ⟨_, rfl⟩, ((Below.refl _ _).alloc (Nat.le_refl _) _).drew⟩
  case rest =>
  obtain ⟨w2, rfl, rfl, ⟨h, rfl⟩, hb⟩ := hcut
  have HX2 := Lib.hid (HX.out.pure hb)
  have HB2 := Lib.hid (pure_below HB.out hb)
  have d0 : w2.cell? ⟨g, 0, none⟩ = some (.int .i64 5) := HX2.out.cell 0
  have d1 : w2.cell? ⟨g, 1, none⟩ = some (.int .i64 0) := HX2.out.cell 1
  have d2 : w2.cell? ⟨g, 2, none⟩ = some (.int .u64 (((0 : Nat) : Nat) : Int)) := HX2.out.cell 2
  have d3 : w2.cell? ⟨g, 3, none⟩ = some (.string ⟨(s).toArray⟩) := HX2.out.cell 3
  have d4 : w2.cell? ⟨g, 4, none⟩ = some (.slice A 0 ac) := HX2.out.cell 4
  have d5 : w2.cell? ⟨g, 5, none⟩ = some (.slice B 0 bc) := HX2.out.cell 5
  clear hb c0 hne
  go_wp2_with fail
  go_at_call 100
  refine (cont_none B bc _ _).mono ?_
  rintro e w3 ⟨rfl, rfl⟩
  clear d0 d1 d2 d3 d4 d5
  go_wp2_with fail
  go_ret
  exact ⟨rfl, HB2.out⟩
set_option maxRecDepth 100000 in
set_option maxHeartbeats 2000000 in
theorem such_6 (s : List UInt8) (A : Option Addr) (ac : Nat) (B : Option Addr) (bc : Nat) (w : World) : Calls Tryz.prog 54 #[.agg #[.int .i64 6, .int .i64 0, .int .u64 ((0 : Nat) : Int), .string ⟨s.toArray⟩, .slice A 0 ac, .slice B 0 bc]] w fun e w' => e = .returned (.bool true) ∧ Below w.heap.size w w' := by
  have HB := Lib.hid (show Below w.heap.size w (w.alloc (.cells #[.int .i64 6, .int .i64 0, .int .u64 ((0 : Nat) : Int), .string ⟨s.toArray⟩, .slice A 0 ac, .slice B 0 bc] 26)) from (Below.refl _ _).alloc (Nat.le_refl _) _)
  have HX := Lib.hid (Blk.new w 26 #[.int .i64 6, .int .i64 0, .int .u64 ((0 : Nat) : Int), .string ⟨s.toArray⟩, .slice A 0 ac, .slice B 0 bc])
  go_enter Tryz.func54, Tryz.ntmps54
  go_upto_region 3 with fail
  generalize w.alloc (.cells #[.int .i64 6, .int .i64 0, .int .u64 ((0 : Nat) : Int), .string ⟨s.toArray⟩, .slice A 0 ac, .slice B 0 bc] 26) = w1 at HB HX ⊢
  generalize w.heap.size = g at HX ⊢
  have c0 : w1.cell? ⟨g, 0, none⟩ = some (.int .i64 6) := HX.out.cell 0
  have hne := Nat.ne_of_lt (lt_of_cell c0)
  simp only at hne
  go_cut [3, 4] (fun u3 u4 wx => ∃ wy, wy = wx ∧ u3 = .int .i64 4 ∧ (∃ h, u4 = .pointer (some ⟨h, 0, none⟩)) ∧ Below w1.heap.size w1 wx)
  case first =>
    go_region_held3 (fun w' => w'.cell? ⟨g, 0, none⟩ = some (.int .i64 6)) (first | with_reducible exact c0 | with_reducible exact kdrew c0 | with_reducible exact kdrewN _ c0 | with_reducible exact kdrew (kalloc _ c0) | with_reducible exact kdrewN _ (kalloc _ c0)) (first | (go_at_call 97; (with_reducible refine (uses_spec 6 4 _ (by omega) (by omega) rfl).mono ?_); rintro e w' ⟨rfl, rfl⟩) | (go_at_call 98; (with_reducible refine (part_is 6 (-1) _ (by omega) (by omega) rfl).mono ?_); rintro e w' ⟨rfl, rfl⟩))
    all_goals
      go_wp2_with fail
      go_meet
      exact ⟨_, rfl, rfl, ⟨_, rfl⟩, ((Below.refl _ _).alloc (Nat.le_refl _) _).drew⟩
  case rest =>
  obtain ⟨w2, rfl, rfl, ⟨h, rfl⟩, hb⟩ := hcut
  have HX2 := Lib.hid (HX.out.pure hb)
  have HB2 := Lib.hid (pure_below HB.out hb)
  have d0 : w2.cell? ⟨g, 0, none⟩ = some (.int .i64 6) := HX2.out.cell 0
  have d1 : w2.cell? ⟨g, 1, none⟩ = some (.int .i64 0) := HX2.out.cell 1
  have d2 : w2.cell? ⟨g, 2, none⟩ = some (.int .u64 (((0 : Nat) : Nat) : Int)) := HX2.out.cell 2
  have d3 : w2.cell? ⟨g, 3, none⟩ = some (.string ⟨(s).toArray⟩) := HX2.out.cell 3
  have d4 : w2.cell? ⟨g, 4, none⟩ = some (.slice A 0 ac) := HX2.out.cell 4
  have d5 : w2.cell? ⟨g, 5, none⟩ = some (.slice B 0 bc) := HX2.out.cell 5
  clear hb c0 hne
  go_wp2_with fail
  go_at_call 100
  refine (cont_none B bc _ _).mono ?_
  rintro e w3 ⟨rfl, rfl⟩
  clear d0 d1 d2 d3 d4 d5
  go_wp2_with fail
  go_ret
  exact ⟨rfl, HB2.out⟩
set_option maxRecDepth 100000 in
set_option maxHeartbeats 2000000 in
theorem such_7 (s : List UInt8) (A : Option Addr) (ac : Nat) (B : Option Addr) (bc : Nat) (w : World) : Calls Tryz.prog 54 #[.agg #[.int .i64 7, .int .i64 0, .int .u64 ((0 : Nat) : Int), .string ⟨s.toArray⟩, .slice A 0 ac, .slice B 0 bc]] w fun e w' => e = .returned (.bool true) ∧ Below w.heap.size w w' := by
  have HB := Lib.hid (show Below w.heap.size w (w.alloc (.cells #[.int .i64 7, .int .i64 0, .int .u64 ((0 : Nat) : Int), .string ⟨s.toArray⟩, .slice A 0 ac, .slice B 0 bc] 26)) from (Below.refl _ _).alloc (Nat.le_refl _) _)
  have HX := Lib.hid (Blk.new w 26 #[.int .i64 7, .int .i64 0, .int .u64 ((0 : Nat) : Int), .string ⟨s.toArray⟩, .slice A 0 ac, .slice B 0 bc])
  go_enter Tryz.func54, Tryz.ntmps54
  go_upto_region 3 with fail
  generalize w.alloc (.cells #[.int .i64 7, .int .i64 0, .int .u64 ((0 : Nat) : Int), .string ⟨s.toArray⟩, .slice A 0 ac, .slice B 0 bc] 26) = w1 at HB HX ⊢
  generalize w.heap.size = g at HX ⊢
  have c0 : w1.cell? ⟨g, 0, none⟩ = some (.int .i64 7) := HX.out.cell 0
  have hne := Nat.ne_of_lt (lt_of_cell c0)
  simp only at hne
  go_cut [3, 4] (fun u3 u4 wx => ∃ wy, wy = wx ∧ u3 = .int .i64 4 ∧ (∃ h, u4 = .pointer (some ⟨h, 0, none⟩)) ∧ Below w1.heap.size w1 wx)
  case first =>
    go_region_held3 (fun w' => w'.cell? ⟨g, 0, none⟩ = some (.int .i64 7)) (first | with_reducible exact c0 | with_reducible exact kdrew c0 | with_reducible exact kdrewN _ c0 | with_reducible exact kdrew (kalloc _ c0) | with_reducible exact kdrewN _ (kalloc _ c0)) (first | (go_at_call 97; (with_reducible refine (uses_spec 7 4 _ (by omega) (by omega) rfl).mono ?_); rintro e w' ⟨rfl, rfl⟩) | (go_at_call 98; (with_reducible refine (part_is 7 (-1) _ (by omega) (by omega) rfl).mono ?_); rintro e w' ⟨rfl, rfl⟩))
    all_goals
      go_wp2_with fail
      go_meet
      exact ⟨_, rfl, rfl, ⟨_, rfl⟩, ((Below.refl _ _).alloc (Nat.le_refl _) _).drew⟩
  case rest =>
  obtain ⟨w2, rfl, rfl, ⟨h, rfl⟩, hb⟩ := hcut
  have HX2 := Lib.hid (HX.out.pure hb)
  have HB2 := Lib.hid (pure_below HB.out hb)
  have d0 : w2.cell? ⟨g, 0, none⟩ = some (.int .i64 7) := HX2.out.cell 0
  have d1 : w2.cell? ⟨g, 1, none⟩ = some (.int .i64 0) := HX2.out.cell 1
  have d2 : w2.cell? ⟨g, 2, none⟩ = some (.int .u64 (((0 : Nat) : Nat) : Int)) := HX2.out.cell 2
  have d3 : w2.cell? ⟨g, 3, none⟩ = some (.string ⟨(s).toArray⟩) := HX2.out.cell 3
  have d4 : w2.cell? ⟨g, 4, none⟩ = some (.slice A 0 ac) := HX2.out.cell 4
  have d5 : w2.cell? ⟨g, 5, none⟩ = some (.slice B 0 bc) := HX2.out.cell 5
  clear hb c0 hne
  go_wp2_with fail
  go_at_call 100
  refine (cont_none B bc _ _).mono ?_
  rintro e w3 ⟨rfl, rfl⟩
  clear d0 d1 d2 d3 d4 d5
  go_wp2_with fail
  go_ret
  exact ⟨rfl, HB2.out⟩
end Go.Proofs.YtjhigmgkmmjlfaaGreat

namespace Go.Proofs.YtjhigmgkmmjlfaaGreat
open Go.RowKit Go.Acc
theorem index_zero (s : List UInt8) : decide ((0 : Int) ≤ Lib.indexByte s 0) = hasZero s := by
  induction s with
  | nil => rfl
  | cons b l ih =>
    unfold Lib.indexByte hasZero
    simp only [List.any_cons]
    by_cases hb : (b == 0) = true
    · rw [if_pos hb, hb]; rfl
    · have hb' : (b == 0) = false := by simpa using hb
      rw [if_neg hb, hb', Bool.false_or]
      have hge : -1 ≤ Lib.indexByte l 0 := by
        clear ih
        induction l with
        | nil => decide
        | cons a l ih2 => unfold Lib.indexByte; (repeat' split) <;> omega
      have ih' : decide ((0 : Int) ≤ Lib.indexByte l 0) = l.any fun c => c == 0 := ih
      rw [← ih']
      by_cases hm : (Lib.indexByte l 0 == -1) = true
      · rw [if_pos hm]
        have : Lib.indexByte l 0 = -1 := by simpa using hm
        rw [this]
      · rw [if_neg hm]
        have : Lib.indexByte l 0 ≠ -1 := by simpa using hm
        exact decide_eq_decide.2 (by omega)
set_option maxRecDepth 100000 in
set_option maxHeartbeats 400000 in
theorem ibs2_spec (s : List UInt8) (r : Int) (w : World) (hr : Lib.indexByte s 0 = r) : Calls Tryz.prog 158 #[.string ⟨s.toArray⟩, .int .u8 0] w fun e w' => e = .returned (.int .i64 r) ∧ w = w' := by
  have h := Lib.run_indexByteString (P := Tryz.prog) ⟨s.toArray⟩ 0 w
  have e : (0 : Int).toNat.toUInt8 = 0 := rfl
  rw [e, show (⟨s.toArray⟩ : ByteArray).data.toList = s from rfl, hr] at h
  clear e hr
  go_enter Tryz.func158, Tryz.ntmps158
  go_wp2
  rw [run_callFunc_extern Tryz.func227 (by kernel_rfl) (by kernel_rfl) (by kernel_rfl) (e := Extern.BytealgIndexByte.indexByte) (by kernel_rfl), h]
  simp only [Result.andThen]
  rw [Oper.upon_value]
  go_wp2
  go_ret
  exact ⟨rfl, rfl⟩
theorem ibs_spec (s : List UInt8) (r : Int) (w : World) (hr : Lib.indexByte s 0 = r) : Calls Tryz.prog 102 #[.string ⟨s.toArray⟩, .int .u8 0] w fun e w' => e = .returned (.int .i64 r) ∧ w = w' := by
  go_enter Tryz.func102, Tryz.ntmps102
  go_wp2_with (go_at_call 158; refine (ibs2_spec s r _ hr).mono ?_; rintro e w' ⟨rfl, rfl⟩)
  go_ret
  exact ⟨rfl, rfl⟩
theorem zero_spec (s : List UInt8) (z : Bool) (w : World) (hz : hasZero s = z) : Calls Tryz.prog 101 #[.string ⟨s.toArray⟩] w fun e w' => e = .returned (.bool z) ∧ w = w' := by
  obtain ⟨r, hr⟩ : ∃ r, Lib.indexByte s 0 = r := ⟨_, rfl⟩
  have HR := Lib.hid hr
  have hd : decide ((0 : Int) ≤ r) = z := by rw [← hr, index_zero]; exact hz
  clear hr hz
  go_enter Tryz.func101, Tryz.ntmps101
  go_wp2_with (go_at_call 102; refine (ibs_spec s r _ HR.out).mono ?_; rintro e w' ⟨rfl, rfl⟩)
  go_ret
  exact ⟨rfl, rfl⟩
theorem kcheck_spec (s : List UInt8) (w : World) (hz : hasZero s = false) : Calls Tryz.prog 81 #[.string ⟨s.toArray⟩] w fun e w' => e = .returned (.int .i64 0) ∧ w = w' := by
  obtain ⟨r, hr⟩ : ∃ r, Lib.indexByte s 0 = r := ⟨_, rfl⟩
  have HR := Lib.hid hr
  have hd : decide ((0 : Int) ≤ r) = false := by rw [← hr, index_zero]; exact hz
  clear hr hz
  go_enter Tryz.func81, Tryz.ntmps81
  go_wp2_with (go_at_call 102; refine (ibs_spec s r _ HR.out).mono ?_; rintro e w' ⟨rfl, rfl⟩)
  go_ret
  exact ⟨rfl, rfl⟩
set_option maxRecDepth 100000 in
set_option maxHeartbeats 1000000 in
theorem keyed_none (k n : Int) (u : Nat) (s : List UInt8) (A : Option Addr) (ac : Nat) (B : Option Addr) (bc : Nat) (w : World) (hk : k ≠ 5) : Calls Tryz.prog 55 #[.agg #[.int .i64 k, .int .i64 n, .int .u64 (u : Int), .string ⟨s.toArray⟩, .slice A 0 ac, .slice B 0 bc]] w fun e w' => e = .returned (.int .i64 0) ∧ Below w.heap.size w w' := by
  have h0 := run_makeMap (P := Tryz.prog) 149
  have HB := Lib.hid (show Below w.heap.size w ((w.alloc (.cells #[.int .i64 k, .int .i64 n, .int .u64 (u : Int), .string ⟨s.toArray⟩, .slice A 0 ac, .slice B 0 bc] 26)).alloc (.map #[] 0)) from ((Below.refl _ _).alloc (Nat.le_refl _) _).alloc (by simp) _)
  have hX := (Blk.new w 26 #[.int .i64 k, .int .i64 n, .int .u64 (u : Int), .string ⟨s.toArray⟩, .slice A 0 ac, .slice B 0 bc]).alloc (.map #[] 0)
  have c4 : ((w.alloc (.cells #[.int .i64 k, .int .i64 n, .int .u64 (u : Int), .string ⟨s.toArray⟩, .slice A 0 ac, .slice B 0 bc] 26)).alloc (.map #[] 0)).cell? ⟨w.heap.size, 4, none⟩ = some (.slice A 0 ac) := hX.cell 4
  have e5 : (k == 5) = false := by simpa using hk
  clear hX hk
  go_enter Tryz.func55, Tryz.ntmps55
  go_wp2_with fail
  refine wp_loop_rounds 1 ?_
  repeat (rw [rounds_succ]; go_wp2)
  all_goals
    go_ret
    exact ⟨rfl, HB.out⟩
end Go.Proofs.YtjhigmgkmmjlfaaGreat
