/-
  Package tree: such, of any node, class by class.
-/
import Derived.Test.YtfoifdoaleaekaaGreatQf33
namespace Go.Proofs.YtfoifdoaleaekaaGreat
open Go.RowKit Go.Acc
theorem such_out (k n : Int) (u : Nat) (s : List UInt8) (A : Option Addr) (an ac : Nat) (B : Option Addr) (bn bc : Nat) (w : World) (h : ¬ (1 ≤ k ∧ k ≤ 17)) : Calls Tryz.prog 39 #[.agg #[.int .i64 k, .int .i64 n, .int .u64 (u : Int), .string ⟨s.toArray⟩, .slice A an ac, .slice B bn bc]] w fun e w' => e = .returned (.bool false) ∧ Below w.heap.size w w' := by
  have HB := Lib.hid (show Below w.heap.size w (w.alloc (.cells #[.int .i64 k, .int .i64 n, .int .u64 (u : Int), .string ⟨s.toArray⟩, .slice A an ac, .slice B bn bc] 26)) from (Below.refl _ _).alloc (Nat.le_refl _) _)
  by_cases h1 : k < 1
  · have d1 : decide (k < 1) = true := decide_eq_true h1
    clear h h1
    go_enter Tryz.func39, Tryz.ntmps39
    go_wp2_with fail
    go_ret
    exact ⟨rfl, HB.out⟩
  · have d1 : decide (k < 1) = false := decide_eq_false h1
    have d17 : decide (17 < k) = true := decide_eq_true (by omega)
    clear h h1
    go_enter Tryz.func39, Tryz.ntmps39
    go_wp2_with fail
    go_ret
    exact ⟨rfl, HB.out⟩
set_option maxRecDepth 100000 in
set_option maxHeartbeats 4000000 in
theorem such_u0 (k n : Int) (u : Nat) (s : List UInt8) (A : Option Addr) (an ac : Nat) (B : Option Addr) (bn bc : Nat) (vs : List Nv) (p : Int) (w : World) (hI : IsN w B bn vs) (hbn : bn ≤ 1099511627776) (h1 : 1 ≤ k) (h17 : k ≤ 17) (hU : usesK k = 0) (hp : partOf k = p)
    (e2 : (k == 2) = false) (e17 : (k == 17) = false) (e15 : (k == 15) = false) (e16 : (k == 16) = false) :
    Calls Tryz.prog 39 #[.agg #[.int .i64 k, .int .i64 n, .int .u64 (u : Int), .string ⟨s.toArray⟩, .slice A an ac, .slice B bn bc]] w fun e w' => e = .returned (.bool (if (n != 0) = true then false else if ((u : Int) != 0) = true then false else if (s == []) = false then false else if decide (0 < an) = true then false else !(vs.any fun v => otherB p v.k))) ∧ Below w.heap.size w w' := by
  have HB := Lib.hid (show Below w.heap.size w (w.alloc (.cells #[.int .i64 k, .int .i64 n, .int .u64 (u : Int), .string ⟨s.toArray⟩, .slice A an ac, .slice B bn bc] 26)) from (Below.refl _ _).alloc (Nat.le_refl _) _)
  have HX := Lib.hid (Blk.new w 26 #[.int .i64 k, .int .i64 n, .int .u64 (u : Int), .string ⟨s.toArray⟩, .slice A an ac, .slice B bn bc])
  have HI := Lib.hid hI
  have HU := Lib.hid hU
  have HP := Lib.hid hp
  have HK := Lib.hid (And.intro h1 h17)
  have d1 : decide (k < 1) = false := decide_eq_false (by omega)
  have d17 : decide (17 < k) = false := decide_eq_false (by omega)
  clear hI hU hp h1 h17
  go_enter Tryz.func39, Tryz.ntmps39
  go_upto_region 3 with fail
  have hBI := HI.out.alloc (.cells #[.int .i64 k, .int .i64 n, .int .u64 (u : Int), .string ⟨s.toArray⟩, .slice A an ac, .slice B bn bc] 26)
  replace HI := Lib.hid hBI
  clear hBI d1 d17
  generalize w.alloc (.cells #[.int .i64 k, .int .i64 n, .int .u64 (u : Int), .string ⟨s.toArray⟩, .slice A an ac, .slice B bn bc] 26) = w1 at HB HX HI ⊢
  generalize w.heap.size = g at HX ⊢
  have c0 : w1.cell? ⟨g, 0, none⟩ = some (.int .i64 k) := HX.out.cell 0
  have hne := Nat.ne_of_lt (lt_of_cell c0)
  simp only at hne
  go_cut [3, 4] (fun u3 u4 wx => ∃ wy, wy = wx ∧ u3 = .int .i64 0 ∧ (∃ h, u4 = .pointer (some ⟨h, 0, none⟩) ∧ Blk wx h 3 #[.int .i64 p]) ∧ Below w1.heap.size w1 wx)
  case first =>
    have eU : (0 : Int) = 0 := rfl
    go_region_held3 (fun w' => w'.cell? ⟨g, 0, none⟩ = some (.int .i64 k)) (first | with_reducible exact c0 | with_reducible exact kdrew c0 | with_reducible exact kdrewN _ c0 | with_reducible exact kdrew (kalloc _ c0) | with_reducible exact kdrewN _ (kalloc _ c0)) (first | (go_at_call 78; (with_reducible refine (uses_spec k 0 _ HK.out.1 HK.out.2 HU.out).mono ?_); rintro e w' ⟨rfl, rfl⟩) | (go_at_call 79; (with_reducible refine (part_is k p _ HK.out.1 HK.out.2 HP.out).mono ?_); rintro e w' ⟨rfl, rfl⟩))
    all_goals
      go_wp2_with fail
      go_meet
      exact ⟨_, rfl, rfl, ⟨_, rfl, (Blk.new _ _ _).drew⟩, ((Below.refl _ _).alloc (Nat.le_refl _) _).drew⟩
  case rest =>
  obtain ⟨w2, rfl, rfl, ⟨h, rfl, hbk⟩, hb⟩ := hcut
  have HX2 := Lib.hid (HX.out.pure hb)
  have HI2 := Lib.hid (HI.out.pure hb)
  have HB2 := Lib.hid (pure_below HB.out hb)
  have HBK := Lib.hid hbk
  have x0 : w2.cell? ⟨g, 0, none⟩ = some (.int .i64 k) := HX2.out.cell 0
  have x1 : w2.cell? ⟨g, 1, none⟩ = some (.int .i64 n) := HX2.out.cell 1
  have x2 : w2.cell? ⟨g, 2, none⟩ = some (.int .u64 (u : Int)) := HX2.out.cell 2
  have x3 : w2.cell? ⟨g, 3, none⟩ = some (.string ⟨s.toArray⟩) := HX2.out.cell 3
  have x4 : w2.cell? ⟨g, 4, none⟩ = some (.slice A an ac) := HX2.out.cell 4
  have x5 : w2.cell? ⟨g, 5, none⟩ = some (.slice B bn bc) := HX2.out.cell 5
  have hs0 : (s == []) = decide (s = []) := by cases s <;> rfl
  obtain ⟨bN, hbN⟩ : ∃ b, (n != 0) = b := ⟨_, rfl⟩
  obtain ⟨bU, hbU⟩ : ∃ b, ((u : Int) != 0) = b := ⟨_, rfl⟩
  obtain ⟨bS, hbS⟩ : ∃ b, (s == []) = b := ⟨_, rfl⟩
  obtain ⟨bA, hbA⟩ : ∃ b, decide (0 < an) = b := ⟨_, rfl⟩
  have hbA2 : decide ((0 : Int) < (an : Int)) = bA := by rw [← hbA]; exact decide_eq_decide.2 (by omega)
  clear hb hbk c0 hne hs0
  cases bN with
  | true =>
    go_wp2_with fail
    go_ret
    exact ⟨rfl, HB2.out⟩
  | false =>
  cases bU with
  | true =>
    go_wp2_with fail
    go_ret
    exact ⟨rfl, HB2.out⟩
  | false =>
  cases bS with
  | false =>
    go_wp2_with fail
    go_ret
    exact ⟨rfl, HB2.out⟩
  | true =>
  cases bA with
  | true =>
    go_wp2_with fail
    go_ret
    exact ⟨rfl, HB2.out⟩
  | false =>
    go_wp2_with fail
    go_at_call 81
    refine (cont_spec h p B bn bc vs _ HI2.out hbn HBK.out).mono ?_
    rintro e w3 ⟨rfl, hb3⟩
    have HB3 := Lib.hid (pure_below HB2.out hb3)
    clear hb3 x0 x1 x2 x3 x4 x5
    go_wp2_with fail
    go_ret
    exact ⟨rfl, HB3.out⟩
set_option maxRecDepth 100000 in
set_option maxHeartbeats 4000000 in
theorem such_u1b (k n : Int) (u : Nat) (s : List UInt8) (A : Option Addr) (an ac : Nat) (B : Option Addr) (bn bc : Nat) (vs : List Nv) (p : Int) (w : World) (hI : IsN w B bn vs) (hbn : bn ≤ 1099511627776) (h1 : 1 ≤ k) (h17 : k ≤ 17) (hU : usesK k = 1) (hp : partOf k = p)
    (e2 : (k == 2) = true) (e17 : (k == 17) = false) (e15 : (k == 15) = false) (e16 : (k == 16) = false) :
    Calls Tryz.prog 39 #[.agg #[.int .i64 k, .int .i64 n, .int .u64 (u : Int), .string ⟨s.toArray⟩, .slice A an ac, .slice B bn bc]] w fun e w' => e = .returned (.bool (if ((u : Int) != 0) = true then false else if (s == []) = false then false else if decide (0 < an) = true then false else if (n != 0 && n != 1) = true then false else !(vs.any fun v => otherB p v.k))) ∧ Below w.heap.size w w' := by
  have HB := Lib.hid (show Below w.heap.size w (w.alloc (.cells #[.int .i64 k, .int .i64 n, .int .u64 (u : Int), .string ⟨s.toArray⟩, .slice A an ac, .slice B bn bc] 26)) from (Below.refl _ _).alloc (Nat.le_refl _) _)
  have HX := Lib.hid (Blk.new w 26 #[.int .i64 k, .int .i64 n, .int .u64 (u : Int), .string ⟨s.toArray⟩, .slice A an ac, .slice B bn bc])
  have HI := Lib.hid hI
  have HU := Lib.hid hU
  have HP := Lib.hid hp
  have HK := Lib.hid (And.intro h1 h17)
  have d1 : decide (k < 1) = false := decide_eq_false (by omega)
  have d17 : decide (17 < k) = false := decide_eq_false (by omega)
  clear hI hU hp h1 h17
  go_enter Tryz.func39, Tryz.ntmps39
  go_upto_region 3 with fail
  have hBI := HI.out.alloc (.cells #[.int .i64 k, .int .i64 n, .int .u64 (u : Int), .string ⟨s.toArray⟩, .slice A an ac, .slice B bn bc] 26)
  replace HI := Lib.hid hBI
  clear hBI d1 d17
  generalize w.alloc (.cells #[.int .i64 k, .int .i64 n, .int .u64 (u : Int), .string ⟨s.toArray⟩, .slice A an ac, .slice B bn bc] 26) = w1 at HB HX HI ⊢
  generalize w.heap.size = g at HX ⊢
  have c0 : w1.cell? ⟨g, 0, none⟩ = some (.int .i64 k) := HX.out.cell 0
  have hne := Nat.ne_of_lt (lt_of_cell c0)
  simp only at hne
  go_cut [3, 4] (fun u3 u4 wx => ∃ wy, wy = wx ∧ u3 = .int .i64 1 ∧ (∃ h, u4 = .pointer (some ⟨h, 0, none⟩) ∧ Blk wx h 3 #[.int .i64 p]) ∧ Below w1.heap.size w1 wx)
  case first =>
    have eU : (0 : Int) = 0 := rfl
    go_region_held3 (fun w' => w'.cell? ⟨g, 0, none⟩ = some (.int .i64 k)) (first | with_reducible exact c0 | with_reducible exact kdrew c0 | with_reducible exact kdrewN _ c0 | with_reducible exact kdrew (kalloc _ c0) | with_reducible exact kdrewN _ (kalloc _ c0)) (first | (go_at_call 78; (with_reducible refine (uses_spec k 1 _ HK.out.1 HK.out.2 HU.out).mono ?_); rintro e w' ⟨rfl, rfl⟩) | (go_at_call 79; (with_reducible refine (part_is k p _ HK.out.1 HK.out.2 HP.out).mono ?_); rintro e w' ⟨rfl, rfl⟩))
    all_goals
      go_wp2_with fail
      go_meet
      exact ⟨_, rfl, rfl, ⟨_, rfl, (Blk.new _ _ _).drew⟩, ((Below.refl _ _).alloc (Nat.le_refl _) _).drew⟩
  case rest =>
  obtain ⟨w2, rfl, rfl, ⟨h, rfl, hbk⟩, hb⟩ := hcut
  have HX2 := Lib.hid (HX.out.pure hb)
  have HI2 := Lib.hid (HI.out.pure hb)
  have HB2 := Lib.hid (pure_below HB.out hb)
  have HBK := Lib.hid hbk
  have x0 : w2.cell? ⟨g, 0, none⟩ = some (.int .i64 k) := HX2.out.cell 0
  have x1 : w2.cell? ⟨g, 1, none⟩ = some (.int .i64 n) := HX2.out.cell 1
  have x2 : w2.cell? ⟨g, 2, none⟩ = some (.int .u64 (u : Int)) := HX2.out.cell 2
  have x3 : w2.cell? ⟨g, 3, none⟩ = some (.string ⟨s.toArray⟩) := HX2.out.cell 3
  have x4 : w2.cell? ⟨g, 4, none⟩ = some (.slice A an ac) := HX2.out.cell 4
  have x5 : w2.cell? ⟨g, 5, none⟩ = some (.slice B bn bc) := HX2.out.cell 5
  have hs0 : (s == []) = decide (s = []) := by cases s <;> rfl
  obtain ⟨bN, hbN⟩ : ∃ b, (n != 0) = b := ⟨_, rfl⟩
  obtain ⟨bU, hbU⟩ : ∃ b, ((u : Int) != 0) = b := ⟨_, rfl⟩
  obtain ⟨bS, hbS⟩ : ∃ b, (s == []) = b := ⟨_, rfl⟩
  obtain ⟨bA, hbA⟩ : ∃ b, decide (0 < an) = b := ⟨_, rfl⟩
  have hbA2 : decide ((0 : Int) < (an : Int)) = bA := by rw [← hbA]; exact decide_eq_decide.2 (by omega)
  clear hb hbk c0 hne hs0
  obtain ⟨b1, hb1⟩ : ∃ b, (n != 1) = b := ⟨_, rfl⟩
  cases bU with
  | true =>
    go_wp2_with fail
    go_ret
    exact ⟨rfl, HB2.out⟩
  | false =>
  cases bS with
  | false =>
    go_wp2_with fail
    go_ret
    exact ⟨rfl, HB2.out⟩
  | true =>
  cases bA with
  | true =>
    go_wp2_with fail
    go_ret
    exact ⟨rfl, HB2.out⟩
  | false =>
  cases bN with
  | false =>
    go_wp2_with fail
    go_at_call 81
    refine (cont_spec h p B bn bc vs _ HI2.out hbn HBK.out).mono ?_
    rintro e w3 ⟨rfl, hb3⟩
    have HB3 := Lib.hid (pure_below HB2.out hb3)
    clear hb3 x0 x1 x2 x3 x4 x5
    go_wp2_with fail
    go_ret
    exact ⟨rfl, HB3.out⟩
  | true =>
  cases b1 with
  | true =>
    go_wp2_with fail
    go_ret
    exact ⟨rfl, HB2.out⟩
  | false =>
    go_wp2_with fail
    go_at_call 81
    refine (cont_spec h p B bn bc vs _ HI2.out hbn HBK.out).mono ?_
    rintro e w3 ⟨rfl, hb3⟩
    have HB3 := Lib.hid (pure_below HB2.out hb3)
    clear hb3 x0 x1 x2 x3 x4 x5
    go_wp2_with fail
    go_ret
    exact ⟨rfl, HB3.out⟩
set_option maxRecDepth 100000 in
set_option maxHeartbeats 4000000 in
theorem such_u1 (k n : Int) (u : Nat) (s : List UInt8) (A : Option Addr) (an ac : Nat) (B : Option Addr) (bn bc : Nat) (vs : List Nv) (p : Int) (w : World) (hI : IsN w B bn vs) (hbn : bn ≤ 1099511627776) (h1 : 1 ≤ k) (h17 : k ≤ 17) (hU : usesK k = 1) (hp : partOf k = p)
    (e2 : (k == 2) = false) (e17 : (k == 17) = false) (e15 : (k == 15) = false) (e16 : (k == 16) = false) :
    Calls Tryz.prog 39 #[.agg #[.int .i64 k, .int .i64 n, .int .u64 (u : Int), .string ⟨s.toArray⟩, .slice A an ac, .slice B bn bc]] w fun e w' => e = .returned (.bool (if ((u : Int) != 0) = true then false else if (s == []) = false then false else if decide (0 < an) = true then false else !(vs.any fun v => otherB p v.k))) ∧ Below w.heap.size w w' := by
  have HB := Lib.hid (show Below w.heap.size w (w.alloc (.cells #[.int .i64 k, .int .i64 n, .int .u64 (u : Int), .string ⟨s.toArray⟩, .slice A an ac, .slice B bn bc] 26)) from (Below.refl _ _).alloc (Nat.le_refl _) _)
  have HX := Lib.hid (Blk.new w 26 #[.int .i64 k, .int .i64 n, .int .u64 (u : Int), .string ⟨s.toArray⟩, .slice A an ac, .slice B bn bc])
  have HI := Lib.hid hI
  have HU := Lib.hid hU
  have HP := Lib.hid hp
  have HK := Lib.hid (And.intro h1 h17)
  have d1 : decide (k < 1) = false := decide_eq_false (by omega)
  have d17 : decide (17 < k) = false := decide_eq_false (by omega)
  clear hI hU hp h1 h17
  go_enter Tryz.func39, Tryz.ntmps39
  go_upto_region 3 with fail
  have hBI := HI.out.alloc (.cells #[.int .i64 k, .int .i64 n, .int .u64 (u : Int), .string ⟨s.toArray⟩, .slice A an ac, .slice B bn bc] 26)
  replace HI := Lib.hid hBI
  clear hBI d1 d17
  generalize w.alloc (.cells #[.int .i64 k, .int .i64 n, .int .u64 (u : Int), .string ⟨s.toArray⟩, .slice A an ac, .slice B bn bc] 26) = w1 at HB HX HI ⊢
  generalize w.heap.size = g at HX ⊢
  have c0 : w1.cell? ⟨g, 0, none⟩ = some (.int .i64 k) := HX.out.cell 0
  have hne := Nat.ne_of_lt (lt_of_cell c0)
  simp only at hne
  go_cut [3, 4] (fun u3 u4 wx => ∃ wy, wy = wx ∧ u3 = .int .i64 1 ∧ (∃ h, u4 = .pointer (some ⟨h, 0, none⟩) ∧ Blk wx h 3 #[.int .i64 p]) ∧ Below w1.heap.size w1 wx)
  case first =>
    have eU : (0 : Int) = 0 := rfl
    go_region_held3 (fun w' => w'.cell? ⟨g, 0, none⟩ = some (.int .i64 k)) (first | with_reducible exact c0 | with_reducible exact kdrew c0 | with_reducible exact kdrewN _ c0 | with_reducible exact kdrew (kalloc _ c0) | with_reducible exact kdrewN _ (kalloc _ c0)) (first | (go_at_call 78; (with_reducible refine (uses_spec k 1 _ HK.out.1 HK.out.2 HU.out).mono ?_); rintro e w' ⟨rfl, rfl⟩) | (go_at_call 79; (with_reducible refine (part_is k p _ HK.out.1 HK.out.2 HP.out).mono ?_); rintro e w' ⟨rfl, rfl⟩))
    all_goals
      go_wp2_with fail
      go_meet
      exact ⟨_, rfl, rfl, ⟨_, rfl, (Blk.new _ _ _).drew⟩, ((Below.refl _ _).alloc (Nat.le_refl _) _).drew⟩
  case rest =>
  obtain ⟨w2, rfl, rfl, ⟨h, rfl, hbk⟩, hb⟩ := hcut
  have HX2 := Lib.hid (HX.out.pure hb)
  have HI2 := Lib.hid (HI.out.pure hb)
  have HB2 := Lib.hid (pure_below HB.out hb)
  have HBK := Lib.hid hbk
  have x0 : w2.cell? ⟨g, 0, none⟩ = some (.int .i64 k) := HX2.out.cell 0
  have x1 : w2.cell? ⟨g, 1, none⟩ = some (.int .i64 n) := HX2.out.cell 1
  have x2 : w2.cell? ⟨g, 2, none⟩ = some (.int .u64 (u : Int)) := HX2.out.cell 2
  have x3 : w2.cell? ⟨g, 3, none⟩ = some (.string ⟨s.toArray⟩) := HX2.out.cell 3
  have x4 : w2.cell? ⟨g, 4, none⟩ = some (.slice A an ac) := HX2.out.cell 4
  have x5 : w2.cell? ⟨g, 5, none⟩ = some (.slice B bn bc) := HX2.out.cell 5
  have hs0 : (s == []) = decide (s = []) := by cases s <;> rfl
  obtain ⟨bN, hbN⟩ : ∃ b, (n != 0) = b := ⟨_, rfl⟩
  obtain ⟨bU, hbU⟩ : ∃ b, ((u : Int) != 0) = b := ⟨_, rfl⟩
  obtain ⟨bS, hbS⟩ : ∃ b, (s == []) = b := ⟨_, rfl⟩
  obtain ⟨bA, hbA⟩ : ∃ b, decide (0 < an) = b := ⟨_, rfl⟩
  have hbA2 : decide ((0 : Int) < (an : Int)) = bA := by rw [← hbA]; exact decide_eq_decide.2 (by omega)
  clear hb hbk c0 hne hs0
  cases bU with
  | true =>
    go_wp2_with fail
    go_ret
    exact ⟨rfl, HB2.out⟩
  | false =>
  cases bS with
  | false =>
    go_wp2_with fail
    go_ret
    exact ⟨rfl, HB2.out⟩
  | true =>
  cases bA with
  | true =>
    go_wp2_with fail
    go_ret
    exact ⟨rfl, HB2.out⟩
  | false =>
  go_wp2_with fail
  go_at_call 81
  refine (cont_spec h p B bn bc vs _ HI2.out hbn HBK.out).mono ?_
  rintro e w3 ⟨rfl, hb3⟩
  have HB3 := Lib.hid (pure_below HB2.out hb3)
  clear hb3 x0 x1 x2 x3 x4 x5
  go_wp2_with fail
  go_ret
  exact ⟨rfl, HB3.out⟩
set_option maxRecDepth 100000 in
set_option maxHeartbeats 4000000 in
theorem such_u2 (k n : Int) (u : Nat) (s : List UInt8) (A : Option Addr) (an ac : Nat) (B : Option Addr) (bn bc : Nat) (vs : List Nv) (p : Int) (w : World) (hI : IsN w B bn vs) (hbn : bn ≤ 1099511627776) (h1 : 1 ≤ k) (h17 : k ≤ 17) (hU : usesK k = 2) (hp : partOf k = p)
    (e2 : (k == 2) = false) (e17 : (k == 17) = false) (e15 : (k == 15) = false) (e16 : (k == 16) = false) :
    Calls Tryz.prog 39 #[.agg #[.int .i64 k, .int .i64 n, .int .u64 (u : Int), .string ⟨s.toArray⟩, .slice A an ac, .slice B bn bc]] w fun e w' => e = .returned (.bool (if (n != 0) = true then false else if (s == []) = false then false else if decide (0 < an) = true then false else !(vs.any fun v => otherB p v.k))) ∧ Below w.heap.size w w' := by
  have HB := Lib.hid (show Below w.heap.size w (w.alloc (.cells #[.int .i64 k, .int .i64 n, .int .u64 (u : Int), .string ⟨s.toArray⟩, .slice A an ac, .slice B bn bc] 26)) from (Below.refl _ _).alloc (Nat.le_refl _) _)
  have HX := Lib.hid (Blk.new w 26 #[.int .i64 k, .int .i64 n, .int .u64 (u : Int), .string ⟨s.toArray⟩, .slice A an ac, .slice B bn bc])
  have HI := Lib.hid hI
  have HU := Lib.hid hU
  have HP := Lib.hid hp
  have HK := Lib.hid (And.intro h1 h17)
  have d1 : decide (k < 1) = false := decide_eq_false (by omega)
  have d17 : decide (17 < k) = false := decide_eq_false (by omega)
  clear hI hU hp h1 h17
  go_enter Tryz.func39, Tryz.ntmps39
  go_upto_region 3 with fail
  have hBI := HI.out.alloc (.cells #[.int .i64 k, .int .i64 n, .int .u64 (u : Int), .string ⟨s.toArray⟩, .slice A an ac, .slice B bn bc] 26)
  replace HI := Lib.hid hBI
  clear hBI d1 d17
  generalize w.alloc (.cells #[.int .i64 k, .int .i64 n, .int .u64 (u : Int), .string ⟨s.toArray⟩, .slice A an ac, .slice B bn bc] 26) = w1 at HB HX HI ⊢
  generalize w.heap.size = g at HX ⊢
  have c0 : w1.cell? ⟨g, 0, none⟩ = some (.int .i64 k) := HX.out.cell 0
  have hne := Nat.ne_of_lt (lt_of_cell c0)
  simp only at hne
  go_cut [3, 4] (fun u3 u4 wx => ∃ wy, wy = wx ∧ u3 = .int .i64 2 ∧ (∃ h, u4 = .pointer (some ⟨h, 0, none⟩) ∧ Blk wx h 3 #[.int .i64 p]) ∧ Below w1.heap.size w1 wx)
  case first =>
    have eU : (0 : Int) = 0 := rfl
    go_region_held3 (fun w' => w'.cell? ⟨g, 0, none⟩ = some (.int .i64 k)) (first | with_reducible exact c0 | with_reducible exact kdrew c0 | with_reducible exact kdrewN _ c0 | with_reducible exact kdrew (kalloc _ c0) | with_reducible exact kdrewN _ (kalloc _ c0)) (first | (go_at_call 78; (with_reducible refine (uses_spec k 2 _ HK.out.1 HK.out.2 HU.out).mono ?_); rintro e w' ⟨rfl, rfl⟩) | (go_at_call 79; (with_reducible refine (part_is k p _ HK.out.1 HK.out.2 HP.out).mono ?_); rintro e w' ⟨rfl, rfl⟩))
    all_goals
      go_wp2_with fail
      go_meet
      exact ⟨_, rfl, rfl, ⟨_, rfl, (Blk.new _ _ _).drew⟩, ((Below.refl _ _).alloc (Nat.le_refl _) _).drew⟩
  case rest =>
  obtain ⟨w2, rfl, rfl, ⟨h, rfl, hbk⟩, hb⟩ := hcut
  have HX2 := Lib.hid (HX.out.pure hb)
  have HI2 := Lib.hid (HI.out.pure hb)
  have HB2 := Lib.hid (pure_below HB.out hb)
  have HBK := Lib.hid hbk
  have x0 : w2.cell? ⟨g, 0, none⟩ = some (.int .i64 k) := HX2.out.cell 0
  have x1 : w2.cell? ⟨g, 1, none⟩ = some (.int .i64 n) := HX2.out.cell 1
  have x2 : w2.cell? ⟨g, 2, none⟩ = some (.int .u64 (u : Int)) := HX2.out.cell 2
  have x3 : w2.cell? ⟨g, 3, none⟩ = some (.string ⟨s.toArray⟩) := HX2.out.cell 3
  have x4 : w2.cell? ⟨g, 4, none⟩ = some (.slice A an ac) := HX2.out.cell 4
  have x5 : w2.cell? ⟨g, 5, none⟩ = some (.slice B bn bc) := HX2.out.cell 5
  have hs0 : (s == []) = decide (s = []) := by cases s <;> rfl
  obtain ⟨bN, hbN⟩ : ∃ b, (n != 0) = b := ⟨_, rfl⟩
  obtain ⟨bU, hbU⟩ : ∃ b, ((u : Int) != 0) = b := ⟨_, rfl⟩
  obtain ⟨bS, hbS⟩ : ∃ b, (s == []) = b := ⟨_, rfl⟩
  obtain ⟨bA, hbA⟩ : ∃ b, decide (0 < an) = b := ⟨_, rfl⟩
  have hbA2 : decide ((0 : Int) < (an : Int)) = bA := by rw [← hbA]; exact decide_eq_decide.2 (by omega)
  clear hb hbk c0 hne hs0
  cases bN with
  | true =>
    go_wp2_with fail
    go_ret
    exact ⟨rfl, HB2.out⟩
  | false =>
  cases bS with
  | false =>
    go_wp2_with fail
    go_ret
    exact ⟨rfl, HB2.out⟩
  | true =>
  cases bA with
  | true =>
    go_wp2_with fail
    go_ret
    exact ⟨rfl, HB2.out⟩
  | false =>
  go_wp2_with fail
  go_at_call 81
  refine (cont_spec h p B bn bc vs _ HI2.out hbn HBK.out).mono ?_
  rintro e w3 ⟨rfl, hb3⟩
  have HB3 := Lib.hid (pure_below HB2.out hb3)
  clear hb3 x0 x1 x2 x3 x4 x5
  go_wp2_with fail
  go_ret
  exact ⟨rfl, HB3.out⟩
set_option maxRecDepth 100000 in
set_option maxHeartbeats 4000000 in
theorem such_u4 (k n : Int) (u : Nat) (s : List UInt8) (A : Option Addr) (an ac : Nat) (B : Option Addr) (bn bc : Nat) (vs : List Nv) (p : Int) (w : World) (hI : IsN w B bn vs) (hbn : bn ≤ 1099511627776) (h1 : 1 ≤ k) (h17 : k ≤ 17) (hU : usesK k = 4) (hp : partOf k = p)
    (e2 : (k == 2) = false) (e17 : (k == 17) = false) (e15 : (k == 15) = false) (e16 : (k == 16) = false) :
    Calls Tryz.prog 39 #[.agg #[.int .i64 k, .int .i64 n, .int .u64 (u : Int), .string ⟨s.toArray⟩, .slice A an ac, .slice B bn bc]] w fun e w' => e = .returned (.bool (if (n != 0) = true then false else if ((u : Int) != 0) = true then false else if decide (0 < an) = true then false else !(vs.any fun v => otherB p v.k))) ∧ Below w.heap.size w w' := by
  have HB := Lib.hid (show Below w.heap.size w (w.alloc (.cells #[.int .i64 k, .int .i64 n, .int .u64 (u : Int), .string ⟨s.toArray⟩, .slice A an ac, .slice B bn bc] 26)) from (Below.refl _ _).alloc (Nat.le_refl _) _)
  have HX := Lib.hid (Blk.new w 26 #[.int .i64 k, .int .i64 n, .int .u64 (u : Int), .string ⟨s.toArray⟩, .slice A an ac, .slice B bn bc])
  have HI := Lib.hid hI
  have HU := Lib.hid hU
  have HP := Lib.hid hp
  have HK := Lib.hid (And.intro h1 h17)
  have d1 : decide (k < 1) = false := decide_eq_false (by omega)
  have d17 : decide (17 < k) = false := decide_eq_false (by omega)
  clear hI hU hp h1 h17
  go_enter Tryz.func39, Tryz.ntmps39
  go_upto_region 3 with fail
  have hBI := HI.out.alloc (.cells #[.int .i64 k, .int .i64 n, .int .u64 (u : Int), .string ⟨s.toArray⟩, .slice A an ac, .slice B bn bc] 26)
  replace HI := Lib.hid hBI
  clear hBI d1 d17
  generalize w.alloc (.cells #[.int .i64 k, .int .i64 n, .int .u64 (u : Int), .string ⟨s.toArray⟩, .slice A an ac, .slice B bn bc] 26) = w1 at HB HX HI ⊢
  generalize w.heap.size = g at HX ⊢
  have c0 : w1.cell? ⟨g, 0, none⟩ = some (.int .i64 k) := HX.out.cell 0
  have hne := Nat.ne_of_lt (lt_of_cell c0)
  simp only at hne
  go_cut [3, 4] (fun u3 u4 wx => ∃ wy, wy = wx ∧ u3 = .int .i64 4 ∧ (∃ h, u4 = .pointer (some ⟨h, 0, none⟩) ∧ Blk wx h 3 #[.int .i64 p]) ∧ Below w1.heap.size w1 wx)
  case first =>
    have eU : (0 : Int) = 0 := rfl
    go_region_held3 (fun w' => w'.cell? ⟨g, 0, none⟩ = some (.int .i64 k)) (first | with_reducible exact c0 | with_reducible exact kdrew c0 | with_reducible exact kdrewN _ c0 | with_reducible exact kdrew (kalloc _ c0) | with_reducible exact kdrewN _ (kalloc _ c0)) (first | (go_at_call 78; (with_reducible refine (uses_spec k 4 _ HK.out.1 HK.out.2 HU.out).mono ?_); rintro e w' ⟨rfl, rfl⟩) | (go_at_call 79; (with_reducible refine (part_is k p _ HK.out.1 HK.out.2 HP.out).mono ?_); rintro e w' ⟨rfl, rfl⟩))
    all_goals
      go_wp2_with fail
      go_meet
      exact ⟨_, rfl, rfl, ⟨_, rfl, (Blk.new _ _ _).drew⟩, ((Below.refl _ _).alloc (Nat.le_refl _) _).drew⟩
  case rest =>
  obtain ⟨w2, rfl, rfl, ⟨h, rfl, hbk⟩, hb⟩ := hcut
  have HX2 := Lib.hid (HX.out.pure hb)
  have HI2 := Lib.hid (HI.out.pure hb)
  have HB2 := Lib.hid (pure_below HB.out hb)
  have HBK := Lib.hid hbk
  have x0 : w2.cell? ⟨g, 0, none⟩ = some (.int .i64 k) := HX2.out.cell 0
  have x1 : w2.cell? ⟨g, 1, none⟩ = some (.int .i64 n) := HX2.out.cell 1
  have x2 : w2.cell? ⟨g, 2, none⟩ = some (.int .u64 (u : Int)) := HX2.out.cell 2
  have x3 : w2.cell? ⟨g, 3, none⟩ = some (.string ⟨s.toArray⟩) := HX2.out.cell 3
  have x4 : w2.cell? ⟨g, 4, none⟩ = some (.slice A an ac) := HX2.out.cell 4
  have x5 : w2.cell? ⟨g, 5, none⟩ = some (.slice B bn bc) := HX2.out.cell 5
  have hs0 : (s == []) = decide (s = []) := by cases s <;> rfl
  obtain ⟨bN, hbN⟩ : ∃ b, (n != 0) = b := ⟨_, rfl⟩
  obtain ⟨bU, hbU⟩ : ∃ b, ((u : Int) != 0) = b := ⟨_, rfl⟩
  obtain ⟨bS, hbS⟩ : ∃ b, (s == []) = b := ⟨_, rfl⟩
  obtain ⟨bA, hbA⟩ : ∃ b, decide (0 < an) = b := ⟨_, rfl⟩
  have hbA2 : decide ((0 : Int) < (an : Int)) = bA := by rw [← hbA]; exact decide_eq_decide.2 (by omega)
  clear hb hbk c0 hne hs0
  cases bN with
  | true =>
    go_wp2_with fail
    go_ret
    exact ⟨rfl, HB2.out⟩
  | false =>
  cases bU with
  | true =>
    go_wp2_with fail
    go_ret
    exact ⟨rfl, HB2.out⟩
  | false =>
  cases bA with
  | true =>
    go_wp2_with fail
    go_ret
    exact ⟨rfl, HB2.out⟩
  | false =>
  go_wp2_with fail
  go_at_call 81
  refine (cont_spec h p B bn bc vs _ HI2.out hbn HBK.out).mono ?_
  rintro e w3 ⟨rfl, hb3⟩
  have HB3 := Lib.hid (pure_below HB2.out hb3)
  clear hb3 x0 x1 x2 x3 x4 x5
  go_wp2_with fail
  go_ret
  exact ⟨rfl, HB3.out⟩
set_option maxRecDepth 100000 in
set_option maxHeartbeats 4000000 in
theorem such_u8 (k n : Int) (u : Nat) (s : List UInt8) (A : Option Addr) (an ac : Nat) (B : Option Addr) (bn bc : Nat) (vs : List Nv) (p : Int) (w : World) (hI : IsN w B bn vs) (hbn : bn ≤ 1099511627776) (h1 : 1 ≤ k) (h17 : k ≤ 17) (hU : usesK k = 8) (hp : partOf k = p)
    (e2 : (k == 2) = false) (e17 : (k == 17) = true) (e15 : (k == 15) = false) (e16 : (k == 16) = false) :
    Calls Tryz.prog 39 #[.agg #[.int .i64 k, .int .i64 n, .int .u64 (u : Int), .string ⟨s.toArray⟩, .slice A an ac, .slice B bn bc]] w fun e w' => e = .returned (.bool (if (n != 0) = true then false else if ((u : Int) != 0) = true then false else if (s == []) = false then false else if decide (an = bn) = false then false else !(vs.any fun v => otherB p v.k))) ∧ Below w.heap.size w w' := by
  have HB := Lib.hid (show Below w.heap.size w (w.alloc (.cells #[.int .i64 k, .int .i64 n, .int .u64 (u : Int), .string ⟨s.toArray⟩, .slice A an ac, .slice B bn bc] 26)) from (Below.refl _ _).alloc (Nat.le_refl _) _)
  have HX := Lib.hid (Blk.new w 26 #[.int .i64 k, .int .i64 n, .int .u64 (u : Int), .string ⟨s.toArray⟩, .slice A an ac, .slice B bn bc])
  have HI := Lib.hid hI
  have HU := Lib.hid hU
  have HP := Lib.hid hp
  have HK := Lib.hid (And.intro h1 h17)
  have d1 : decide (k < 1) = false := decide_eq_false (by omega)
  have d17 : decide (17 < k) = false := decide_eq_false (by omega)
  clear hI hU hp h1 h17
  go_enter Tryz.func39, Tryz.ntmps39
  go_upto_region 3 with fail
  have hBI := HI.out.alloc (.cells #[.int .i64 k, .int .i64 n, .int .u64 (u : Int), .string ⟨s.toArray⟩, .slice A an ac, .slice B bn bc] 26)
  replace HI := Lib.hid hBI
  clear hBI d1 d17
  generalize w.alloc (.cells #[.int .i64 k, .int .i64 n, .int .u64 (u : Int), .string ⟨s.toArray⟩, .slice A an ac, .slice B bn bc] 26) = w1 at HB HX HI ⊢
  generalize w.heap.size = g at HX ⊢
  have c0 : w1.cell? ⟨g, 0, none⟩ = some (.int .i64 k) := HX.out.cell 0
  have hne := Nat.ne_of_lt (lt_of_cell c0)
  simp only at hne
  go_cut [3, 4] (fun u3 u4 wx => ∃ wy, wy = wx ∧ u3 = .int .i64 8 ∧ (∃ h, u4 = .pointer (some ⟨h, 0, none⟩) ∧ Blk wx h 3 #[.int .i64 p]) ∧ Below w1.heap.size w1 wx)
  case first =>
    have eU : (0 : Int) = 0 := rfl
    go_region_held3 (fun w' => w'.cell? ⟨g, 0, none⟩ = some (.int .i64 k)) (first | with_reducible exact c0 | with_reducible exact kdrew c0 | with_reducible exact kdrewN _ c0 | with_reducible exact kdrew (kalloc _ c0) | with_reducible exact kdrewN _ (kalloc _ c0)) (first | (go_at_call 78; (with_reducible refine (uses_spec k 8 _ HK.out.1 HK.out.2 HU.out).mono ?_); rintro e w' ⟨rfl, rfl⟩) | (go_at_call 79; (with_reducible refine (part_is k p _ HK.out.1 HK.out.2 HP.out).mono ?_); rintro e w' ⟨rfl, rfl⟩))
    all_goals
      go_wp2_with fail
      go_meet
      exact ⟨_, rfl, rfl, ⟨_, rfl, (Blk.new _ _ _).drew⟩, ((Below.refl _ _).alloc (Nat.le_refl _) _).drew⟩
  case rest =>
  obtain ⟨w2, rfl, rfl, ⟨h, rfl, hbk⟩, hb⟩ := hcut
  have HX2 := Lib.hid (HX.out.pure hb)
  have HI2 := Lib.hid (HI.out.pure hb)
  have HB2 := Lib.hid (pure_below HB.out hb)
  have HBK := Lib.hid hbk
  have x0 : w2.cell? ⟨g, 0, none⟩ = some (.int .i64 k) := HX2.out.cell 0
  have x1 : w2.cell? ⟨g, 1, none⟩ = some (.int .i64 n) := HX2.out.cell 1
  have x2 : w2.cell? ⟨g, 2, none⟩ = some (.int .u64 (u : Int)) := HX2.out.cell 2
  have x3 : w2.cell? ⟨g, 3, none⟩ = some (.string ⟨s.toArray⟩) := HX2.out.cell 3
  have x4 : w2.cell? ⟨g, 4, none⟩ = some (.slice A an ac) := HX2.out.cell 4
  have x5 : w2.cell? ⟨g, 5, none⟩ = some (.slice B bn bc) := HX2.out.cell 5
  have hs0 : (s == []) = decide (s = []) := by cases s <;> rfl
  obtain ⟨bN, hbN⟩ : ∃ b, (n != 0) = b := ⟨_, rfl⟩
  obtain ⟨bU, hbU⟩ : ∃ b, ((u : Int) != 0) = b := ⟨_, rfl⟩
  obtain ⟨bS, hbS⟩ : ∃ b, (s == []) = b := ⟨_, rfl⟩
  obtain ⟨bA, hbA⟩ : ∃ b, decide (0 < an) = b := ⟨_, rfl⟩
  have hbA2 : decide ((0 : Int) < (an : Int)) = bA := by rw [← hbA]; exact decide_eq_decide.2 (by omega)
  clear hb hbk c0 hne hs0
  obtain ⟨bE, hbE⟩ : ∃ b, decide (an = bn) = b := ⟨_, rfl⟩
  have hbE2 : ((an : Int) != (bn : Int)) = !bE := by
    rw [← hbE, Bool.eq_iff_iff]
    simp only [bne_iff_ne, ne_eq, Bool.not_eq_true', decide_eq_false_iff_not]
    omega
  have hbE3 : ((an : Int) == (bn : Int)) = bE := by
    rw [← hbE, Bool.eq_iff_iff]
    simp only [beq_iff_eq, decide_eq_true_eq]
    omega
  cases bN with
  | true =>
    go_wp2_with fail
    go_ret
    exact ⟨rfl, HB2.out⟩
  | false =>
  cases bU with
  | true =>
    go_wp2_with fail
    go_ret
    exact ⟨rfl, HB2.out⟩
  | false =>
  cases bS with
  | false =>
    go_wp2_with fail
    go_ret
    exact ⟨rfl, HB2.out⟩
  | true =>
  cases bE with
  | false =>
    go_wp2_with fail
    go_ret
    exact ⟨rfl, HB2.out⟩
  | true =>
    go_wp2_with fail
    go_at_call 81
    refine (cont_spec h p B bn bc vs _ HI2.out hbn HBK.out).mono ?_
    rintro e w3 ⟨rfl, hb3⟩
    have HB3 := Lib.hid (pure_below HB2.out hb3)
    clear hb3 x0 x1 x2 x3 x4 x5
    go_wp2_with fail
    go_ret
    exact ⟨rfl, HB3.out⟩
set_option maxRecDepth 100000 in
set_option maxHeartbeats 4000000 in
theorem such_f15 (k n : Int) (u : Nat) (s : List UInt8) (A : Option Addr) (an ac : Nat) (B : Option Addr) (bn bc : Nat) (vs : List Nv) (p : Int) (w : World) (hI : IsN w B bn vs) (hbn : bn ≤ 1099511627776) (h1 : 1 ≤ k) (h17 : k ≤ 17) (hU : usesK k = 0) (hp : partOf k = p)
    (e2 : (k == 2) = false) (e17 : (k == 17) = false) (e15 : (k == 15) = true) (_e16 : (k == 16) = false) :
    Calls Tryz.prog 39 #[.agg #[.int .i64 k, .int .i64 n, .int .u64 (u : Int), .string ⟨s.toArray⟩, .slice A an ac, .slice B bn bc]] w fun e w' => e = .returned (.bool (if (n != 0) = true then false else if ((u : Int) != 0) = true then false else if (s == []) = false then false else if decide (0 < an) = true then false else if decide (bn < 2) = true then false else if decide (4 < bn) = true then false else !(vs.any fun v => otherB p v.k))) ∧ Below w.heap.size w w' := by
  have HB := Lib.hid (show Below w.heap.size w (w.alloc (.cells #[.int .i64 k, .int .i64 n, .int .u64 (u : Int), .string ⟨s.toArray⟩, .slice A an ac, .slice B bn bc] 26)) from (Below.refl _ _).alloc (Nat.le_refl _) _)
  have HX := Lib.hid (Blk.new w 26 #[.int .i64 k, .int .i64 n, .int .u64 (u : Int), .string ⟨s.toArray⟩, .slice A an ac, .slice B bn bc])
  have HI := Lib.hid hI
  have HU := Lib.hid hU
  have HP := Lib.hid hp
  have HK := Lib.hid (And.intro h1 h17)
  have d1 : decide (k < 1) = false := decide_eq_false (by omega)
  have d17 : decide (17 < k) = false := decide_eq_false (by omega)
  clear hI hU hp h1 h17
  go_enter Tryz.func39, Tryz.ntmps39
  go_upto_region 3 with fail
  have hBI := HI.out.alloc (.cells #[.int .i64 k, .int .i64 n, .int .u64 (u : Int), .string ⟨s.toArray⟩, .slice A an ac, .slice B bn bc] 26)
  replace HI := Lib.hid hBI
  clear hBI d1 d17
  generalize w.alloc (.cells #[.int .i64 k, .int .i64 n, .int .u64 (u : Int), .string ⟨s.toArray⟩, .slice A an ac, .slice B bn bc] 26) = w1 at HB HX HI ⊢
  generalize w.heap.size = g at HX ⊢
  have c0 : w1.cell? ⟨g, 0, none⟩ = some (.int .i64 k) := HX.out.cell 0
  have hne := Nat.ne_of_lt (lt_of_cell c0)
  simp only at hne
  go_cut [3, 4] (fun u3 u4 wx => ∃ wy, wy = wx ∧ u3 = .int .i64 0 ∧ (∃ h, u4 = .pointer (some ⟨h, 0, none⟩) ∧ Blk wx h 3 #[.int .i64 p]) ∧ Below w1.heap.size w1 wx)
  case first =>
    have eU : (0 : Int) = 0 := rfl
    go_region_held3 (fun w' => w'.cell? ⟨g, 0, none⟩ = some (.int .i64 k)) (first | with_reducible exact c0 | with_reducible exact kdrew c0 | with_reducible exact kdrewN _ c0 | with_reducible exact kdrew (kalloc _ c0) | with_reducible exact kdrewN _ (kalloc _ c0)) (first | (go_at_call 78; (with_reducible refine (uses_spec k 0 _ HK.out.1 HK.out.2 HU.out).mono ?_); rintro e w' ⟨rfl, rfl⟩) | (go_at_call 79; (with_reducible refine (part_is k p _ HK.out.1 HK.out.2 HP.out).mono ?_); rintro e w' ⟨rfl, rfl⟩))
    all_goals
      go_wp2_with fail
      go_meet
      exact ⟨_, rfl, rfl, ⟨_, rfl, (Blk.new _ _ _).drew⟩, ((Below.refl _ _).alloc (Nat.le_refl _) _).drew⟩
  case rest =>
  obtain ⟨w2, rfl, rfl, ⟨h, rfl, hbk⟩, hb⟩ := hcut
  have HX2 := Lib.hid (HX.out.pure hb)
  have HI2 := Lib.hid (HI.out.pure hb)
  have HB2 := Lib.hid (pure_below HB.out hb)
  have HBK := Lib.hid hbk
  have x0 : w2.cell? ⟨g, 0, none⟩ = some (.int .i64 k) := HX2.out.cell 0
  have x1 : w2.cell? ⟨g, 1, none⟩ = some (.int .i64 n) := HX2.out.cell 1
  have x2 : w2.cell? ⟨g, 2, none⟩ = some (.int .u64 (u : Int)) := HX2.out.cell 2
  have x3 : w2.cell? ⟨g, 3, none⟩ = some (.string ⟨s.toArray⟩) := HX2.out.cell 3
  have x4 : w2.cell? ⟨g, 4, none⟩ = some (.slice A an ac) := HX2.out.cell 4
  have x5 : w2.cell? ⟨g, 5, none⟩ = some (.slice B bn bc) := HX2.out.cell 5
  have hs0 : (s == []) = decide (s = []) := by cases s <;> rfl
  obtain ⟨bN, hbN⟩ : ∃ b, (n != 0) = b := ⟨_, rfl⟩
  obtain ⟨bU, hbU⟩ : ∃ b, ((u : Int) != 0) = b := ⟨_, rfl⟩
  obtain ⟨bS, hbS⟩ : ∃ b, (s == []) = b := ⟨_, rfl⟩
  obtain ⟨bA, hbA⟩ : ∃ b, decide (0 < an) = b := ⟨_, rfl⟩
  have hbA2 : decide ((0 : Int) < (an : Int)) = bA := by rw [← hbA]; exact decide_eq_decide.2 (by omega)
  clear hb hbk c0 hne hs0
  obtain ⟨bl, hbl⟩ : ∃ b, decide (bn < 2) = b := ⟨_, rfl⟩
  obtain ⟨bg, hbg⟩ : ∃ b, decide (4 < bn) = b := ⟨_, rfl⟩
  have hbl2 : decide ((bn : Int) < 2) = bl := by rw [← hbl]; exact decide_eq_decide.2 (by omega)
  have hbg2 : decide (4 < (bn : Int)) = bg := by rw [← hbg]; exact decide_eq_decide.2 (by omega)
  cases bN with
  | true =>
    go_wp2_with fail
    go_ret
    exact ⟨rfl, HB2.out⟩
  | false =>
  cases bU with
  | true =>
    go_wp2_with fail
    go_ret
    exact ⟨rfl, HB2.out⟩
  | false =>
  cases bS with
  | false =>
    go_wp2_with fail
    go_ret
    exact ⟨rfl, HB2.out⟩
  | true =>
  cases bA with
  | true =>
    go_wp2_with fail
    go_ret
    exact ⟨rfl, HB2.out⟩
  | false =>
  cases bl with
  | true =>
    go_wp2_with fail
    go_ret
    exact ⟨rfl, HB2.out⟩
  | false =>
  cases bg with
  | true =>
    go_wp2_with fail
    go_ret
    exact ⟨rfl, HB2.out⟩
  | false =>
    go_wp2_with fail
    go_at_call 81
    refine (cont_spec h p B bn bc vs _ HI2.out hbn HBK.out).mono ?_
    rintro e w3 ⟨rfl, hb3⟩
    have HB3 := Lib.hid (pure_below HB2.out hb3)
    clear hb3 x0 x1 x2 x3 x4 x5
    go_wp2_with fail
    go_ret
    exact ⟨rfl, HB3.out⟩
set_option maxRecDepth 100000 in
set_option maxHeartbeats 4000000 in
theorem such_f16 (k n : Int) (u : Nat) (s : List UInt8) (A : Option Addr) (an ac : Nat) (B : Option Addr) (bn bc : Nat) (vs : List Nv) (p : Int) (w : World) (hI : IsN w B bn vs) (hbn : bn ≤ 1099511627776) (h1 : 1 ≤ k) (h17 : k ≤ 17) (hU : usesK k = 0) (hp : partOf k = p)
    (e2 : (k == 2) = false) (e17 : (k == 17) = false) (e15 : (k == 15) = false) (e16 : (k == 16) = true) :
    Calls Tryz.prog 39 #[.agg #[.int .i64 k, .int .i64 n, .int .u64 (u : Int), .string ⟨s.toArray⟩, .slice A an ac, .slice B bn bc]] w fun e w' => e = .returned (.bool (if (n != 0) = true then false else if ((u : Int) != 0) = true then false else if (s == []) = false then false else if decide (0 < an) = true then false else if decide (bn < 2) = true then false else if decide (4 < bn) = true then false else !(vs.any fun v => otherB p v.k))) ∧ Below w.heap.size w w' := by
  have HB := Lib.hid (show Below w.heap.size w (w.alloc (.cells #[.int .i64 k, .int .i64 n, .int .u64 (u : Int), .string ⟨s.toArray⟩, .slice A an ac, .slice B bn bc] 26)) from (Below.refl _ _).alloc (Nat.le_refl _) _)
  have HX := Lib.hid (Blk.new w 26 #[.int .i64 k, .int .i64 n, .int .u64 (u : Int), .string ⟨s.toArray⟩, .slice A an ac, .slice B bn bc])
  have HI := Lib.hid hI
  have HU := Lib.hid hU
  have HP := Lib.hid hp
  have HK := Lib.hid (And.intro h1 h17)
  have d1 : decide (k < 1) = false := decide_eq_false (by omega)
  have d17 : decide (17 < k) = false := decide_eq_false (by omega)
  clear hI hU hp h1 h17
  go_enter Tryz.func39, Tryz.ntmps39
  go_upto_region 3 with fail
  have hBI := HI.out.alloc (.cells #[.int .i64 k, .int .i64 n, .int .u64 (u : Int), .string ⟨s.toArray⟩, .slice A an ac, .slice B bn bc] 26)
  replace HI := Lib.hid hBI
  clear hBI d1 d17
  generalize w.alloc (.cells #[.int .i64 k, .int .i64 n, .int .u64 (u : Int), .string ⟨s.toArray⟩, .slice A an ac, .slice B bn bc] 26) = w1 at HB HX HI ⊢
  generalize w.heap.size = g at HX ⊢
  have c0 : w1.cell? ⟨g, 0, none⟩ = some (.int .i64 k) := HX.out.cell 0
  have hne := Nat.ne_of_lt (lt_of_cell c0)
  simp only at hne
  go_cut [3, 4] (fun u3 u4 wx => ∃ wy, wy = wx ∧ u3 = .int .i64 0 ∧ (∃ h, u4 = .pointer (some ⟨h, 0, none⟩) ∧ Blk wx h 3 #[.int .i64 p]) ∧ Below w1.heap.size w1 wx)
  case first =>
    have eU : (0 : Int) = 0 := rfl
    go_region_held3 (fun w' => w'.cell? ⟨g, 0, none⟩ = some (.int .i64 k)) (first | with_reducible exact c0 | with_reducible exact kdrew c0 | with_reducible exact kdrewN _ c0 | with_reducible exact kdrew (kalloc _ c0) | with_reducible exact kdrewN _ (kalloc _ c0)) (first | (go_at_call 78; (with_reducible refine (uses_spec k 0 _ HK.out.1 HK.out.2 HU.out).mono ?_); rintro e w' ⟨rfl, rfl⟩) | (go_at_call 79; (with_reducible refine (part_is k p _ HK.out.1 HK.out.2 HP.out).mono ?_); rintro e w' ⟨rfl, rfl⟩))
    all_goals
      go_wp2_with fail
      go_meet
      exact ⟨_, rfl, rfl, ⟨_, rfl, (Blk.new _ _ _).drew⟩, ((Below.refl _ _).alloc (Nat.le_refl _) _).drew⟩
  case rest =>
  obtain ⟨w2, rfl, rfl, ⟨h, rfl, hbk⟩, hb⟩ := hcut
  have HX2 := Lib.hid (HX.out.pure hb)
  have HI2 := Lib.hid (HI.out.pure hb)
  have HB2 := Lib.hid (pure_below HB.out hb)
  have HBK := Lib.hid hbk
  have x0 : w2.cell? ⟨g, 0, none⟩ = some (.int .i64 k) := HX2.out.cell 0
  have x1 : w2.cell? ⟨g, 1, none⟩ = some (.int .i64 n) := HX2.out.cell 1
  have x2 : w2.cell? ⟨g, 2, none⟩ = some (.int .u64 (u : Int)) := HX2.out.cell 2
  have x3 : w2.cell? ⟨g, 3, none⟩ = some (.string ⟨s.toArray⟩) := HX2.out.cell 3
  have x4 : w2.cell? ⟨g, 4, none⟩ = some (.slice A an ac) := HX2.out.cell 4
  have x5 : w2.cell? ⟨g, 5, none⟩ = some (.slice B bn bc) := HX2.out.cell 5
  have hs0 : (s == []) = decide (s = []) := by cases s <;> rfl
  obtain ⟨bN, hbN⟩ : ∃ b, (n != 0) = b := ⟨_, rfl⟩
  obtain ⟨bU, hbU⟩ : ∃ b, ((u : Int) != 0) = b := ⟨_, rfl⟩
  obtain ⟨bS, hbS⟩ : ∃ b, (s == []) = b := ⟨_, rfl⟩
  obtain ⟨bA, hbA⟩ : ∃ b, decide (0 < an) = b := ⟨_, rfl⟩
  have hbA2 : decide ((0 : Int) < (an : Int)) = bA := by rw [← hbA]; exact decide_eq_decide.2 (by omega)
  clear hb hbk c0 hne hs0
  obtain ⟨bl, hbl⟩ : ∃ b, decide (bn < 2) = b := ⟨_, rfl⟩
  obtain ⟨bg, hbg⟩ : ∃ b, decide (4 < bn) = b := ⟨_, rfl⟩
  have hbl2 : decide ((bn : Int) < 2) = bl := by rw [← hbl]; exact decide_eq_decide.2 (by omega)
  have hbg2 : decide (4 < (bn : Int)) = bg := by rw [← hbg]; exact decide_eq_decide.2 (by omega)
  cases bN with
  | true =>
    go_wp2_with fail
    go_ret
    exact ⟨rfl, HB2.out⟩
  | false =>
  cases bU with
  | true =>
    go_wp2_with fail
    go_ret
    exact ⟨rfl, HB2.out⟩
  | false =>
  cases bS with
  | false =>
    go_wp2_with fail
    go_ret
    exact ⟨rfl, HB2.out⟩
  | true =>
  cases bA with
  | true =>
    go_wp2_with fail
    go_ret
    exact ⟨rfl, HB2.out⟩
  | false =>
  cases bl with
  | true =>
    go_wp2_with fail
    go_ret
    exact ⟨rfl, HB2.out⟩
  | false =>
  cases bg with
  | true =>
    go_wp2_with fail
    go_ret
    exact ⟨rfl, HB2.out⟩
  | false =>
    go_wp2_with fail
    go_at_call 81
    refine (cont_spec h p B bn bc vs _ HI2.out hbn HBK.out).mono ?_
    rintro e w3 ⟨rfl, hb3⟩
    have HB3 := Lib.hid (pure_below HB2.out hb3)
    clear hb3 x0 x1 x2 x3 x4 x5
    go_wp2_with fail
    go_ret
    exact ⟨rfl, HB3.out⟩
end Go.Proofs.YtfoifdoaleaekaaGreat
