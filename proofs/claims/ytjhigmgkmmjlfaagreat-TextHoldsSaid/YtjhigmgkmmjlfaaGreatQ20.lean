/-
  Packages tree and key: Check, Copy and Sorted of a node without children.
  Packages tree and key: the keys of a node of kind key; Sorted of such a node with a byte 00.
  Package fit: the first width at which a function says yes.
  Packages tag, width and their references: the walks.
-/
import Derived.Test.YtjhigmgkmmjlfaaGreatQ19
import Derived.Deep.WholeRow
namespace Go.Proofs.YtjhigmgkmmjlfaaGreat
open Go.RowKit Go.Acc
/-- A valid number, boolean or null; a valid string, blob or key. -/
def NumV (k n : Int) (u : Nat) (s : List UInt8) : Prop :=
  (k = 1 ∧ n = 0 ∧ u = 0 ∧ s = []) ∨ (k = 2 ∧ (n = 0 ∨ n = 1) ∧ u = 0 ∧ s = []) ∨ (k = 3 ∧ u = 0 ∧ s = []) ∨ (k = 4 ∧ n = 0 ∧ s = []) ∨ (k = 8 ∧ u = 0 ∧ s = []) ∨ (k = 9 ∧ n = 0 ∧ s = [])
def TxtV (k n : Int) (u : Nat) : Prop := (k = 5 ∨ k = 6 ∨ k = 7) ∧ n = 0 ∧ u = 0
theorem such_leaf {k n : Int} {u : Nat} {s : List UInt8} (h : NumV k n u s ∨ TxtV k n u) (w : World) : Calls Tryz.prog 54 #[.agg #[.int .i64 k, .int .i64 n, .int .u64 (u : Int), .string ⟨s.toArray⟩, .slice none 0 0, .slice none 0 0]] w fun e w' => e = .returned (.bool true) ∧ Below w.heap.size w w' := by
  rcases h with (⟨rfl, rfl, rfl, rfl⟩ | ⟨rfl, rfl | rfl, rfl, rfl⟩ | ⟨rfl, rfl, rfl⟩ | ⟨rfl, rfl, rfl⟩ | ⟨rfl, rfl, rfl⟩ | ⟨rfl, rfl, rfl⟩) | ⟨rfl | rfl | rfl, rfl, rfl⟩
  · exact such_1 none 0 none 0 w
  · exact such_20 none 0 none 0 w
  · exact such_21 none 0 none 0 w
  · exact such_3 n none 0 none 0 w
  · exact such_4 u none 0 none 0 w
  · exact such_8 n none 0 none 0 w
  · exact such_9 u none 0 none 0 w
  · exact such_5 s none 0 none 0 w
  · exact such_6 s none 0 none 0 w
  · exact such_7 s none 0 none 0 w
theorem leaf_ord (k n : Int) (u : Nat) (s : List UInt8) (w : World) (p : Nat → Prop) : NodeO w p 0 ⟨k, n, u, s, none, 0, 0, none, 0, 0⟩ (.mk k n u s [] []) [(0, ⟨k, n, u, s, none, 0, 0, none, 0, 0⟩)] :=
  NodeO.mk (x := ⟨k, n, u, s, none, 0, 0, none, 0, 0⟩) (ks := []) (l := []) (vs := []) (yss := []) (Is.nil _ _) (fun _ h => by cases h) (Nat.le_refl _) (Nat.zero_le _) (Is.nil _ _) (fun _ h => by cases h) (Nat.le_refl _) (Nat.zero_le _) rfl rfl (fun i v t ys h => by simp at h)
/-- Check of such a node: the error of its keys. -/
theorem check_leaf {k n : Int} {u : Nat} {s : List UInt8} (h : NumV k n u s ∨ TxtV k n u) (ke : Int) (w : World)
    (hK : ∀ W, Calls Tryz.prog 55 #[.agg #[.int .i64 k, .int .i64 n, .int .u64 (u : Int), .string ⟨s.toArray⟩, .slice none 0 0, .slice none 0 0]] W fun e W' => e = .returned (.int .i64 ke) ∧ Below W.heap.size W W') :
    Calls Tryz.prog 13 #[.agg #[.int .i64 k, .int .i64 n, .int .u64 (u : Int), .string ⟨s.toArray⟩, .slice none 0 0, .slice none 0 0]] w fun e w' => e = .returned (.int .i64 ke) ∧ Below w.heap.size w w' := by
  refine check_gen ⟨k, n, u, s, none, 0, 0, none, 0, 0⟩ (.mk k n u s [] []) [(0, ⟨k, n, u, s, none, 0, 0, none, 0, 0⟩)] (fun _ => False) w (fun _ => true) (fun _ => ke) ke (leaf_ord k n u s w _) (fun _ h => h.elim) (show (1 : Nat) ≤ 1099511627776 by omega) (fun y hy => by simp at hy; subst hy; exact Nat.zero_le _) ?_ ?_ ?_
  · intro i y W hy _
    obtain ⟨hi, rfl⟩ := List.getElem?_eq_some_iff.1 hy
    simp at hi
    subst hi
    exact such_leaf h W
  · intro i y W hy _
    obtain ⟨hi, rfl⟩ := List.getElem?_eq_some_iff.1 hy
    simp at hi
    subst hi
    exact hK W
  · show firstE _ 1 = ke
    unfold firstE firstE
    simp [errI, errP]
theorem clones_nil (w : World) : Calls Tryz.prog 113 #[.slice none 0 0] w fun e w' => e = .returned (.slice none 0 0) ∧ w = w' := by
  have hnil := fun (w : World) (A : Option Addr) (n c : Nat) => Lib.run_eql_slice_nil (P := Tryz.prog) w 23 9 A n c 0 0 Tryz.underlying23
  go_enter Tryz.func113, Tryz.ntmps113
  go_wp2
  go_ret
  exact ⟨rfl, rfl⟩
set_option maxRecDepth 100000 in
set_option maxHeartbeats 2000000 in
theorem copy_leaf (k n : Int) (u : Nat) (s : List UInt8) (w : World) : Calls Tryz.prog 74 #[.agg #[.int .i64 k, .int .i64 n, .int .u64 (u : Int), .string ⟨s.toArray⟩, .slice none 0 0, .slice none 0 0]] w fun e w' => e = .returned (.agg #[.int .i64 k, .int .i64 n, .int .u64 (u : Int), .string ⟨s.toArray⟩, .slice none 0 0, .slice none 0 0]) ∧ Below w.heap.size w w' := by
  go_enter Tryz.func74, Tryz.ntmps74
  go_wp2_with (go_at_call 113; refine (clones_nil _).mono ?_; rintro e w' ⟨rfl, rfl⟩)
  refine wp_loop_rounds 1 ?_
  repeat (rw [rounds_succ]; go_wp2)
  all_goals
    refine bodyPost_ret (v := .agg #[.int .i64 k, .int .i64 n, .int .u64 (u : Int), .string ⟨s.toArray⟩, .slice none 0 0, .slice none 0 0]) (by simp [results, Tryz.results74, go_sem]) rfl ⟨rfl, ?_⟩
    exact ((Below.refl _ _).alloc (Nat.le_refl _) _).alloc (by simp) _
set_option maxRecDepth 100000 in
set_option maxHeartbeats 2000000 in
theorem ksort_leaf (k n : Int) (u : Nat) (s : List UInt8) (w : World) (hk : k ≠ 17) : Calls Tryz.prog 73 #[.agg #[.int .i64 k, .int .i64 n, .int .u64 (u : Int), .string ⟨s.toArray⟩, .slice none 0 0, .slice none 0 0]] w fun e w' => e = .returned (.agg #[.int .i64 k, .int .i64 n, .int .u64 (u : Int), .string ⟨s.toArray⟩, .slice none 0 0, .slice none 0 0]) ∧ Below w.heap.size w w' := by
  have e17 : (k == 17) = false := by simpa using hk
  clear hk
  go_enter Tryz.func73, Tryz.ntmps73
  go_wp2
  refine wp_loop_rounds 1 ?_
  repeat (rw [rounds_succ]; go_wp2)
  all_goals
    refine bodyPost_ret (v := .agg #[.int .i64 k, .int .i64 n, .int .u64 (u : Int), .string ⟨s.toArray⟩, .slice none 0 0, .slice none 0 0]) (by simp [results, Tryz.results73, go_sem]) rfl ⟨rfl, ?_⟩
    exact ((Below.refl _ _).alloc (Nat.le_refl _) _).alloc (by simp) _
set_option maxRecDepth 100000 in
set_option maxHeartbeats 2000000 in
theorem ksorted_leaf {k n : Int} {u : Nat} {s : List UInt8} (h : NumV k n u s ∨ TxtV k n u) (w : World)
    (hK : ∀ W, Calls Tryz.prog 55 #[.agg #[.int .i64 k, .int .i64 n, .int .u64 (u : Int), .string ⟨s.toArray⟩, .slice none 0 0, .slice none 0 0]] W fun e W' => e = .returned (.int .i64 0) ∧ Below W.heap.size W W') :
    Calls Tryz.prog 34 #[.agg #[.int .i64 k, .int .i64 n, .int .u64 (u : Int), .string ⟨s.toArray⟩, .slice none 0 0, .slice none 0 0]] w fun e w' => e = .returned (.tuple #[.agg #[.int .i64 k, .int .i64 n, .int .u64 (u : Int), .string ⟨s.toArray⟩, .slice none 0 0, .slice none 0 0], .int .i64 0]) ∧ Below w.heap.size w w' := by
  have HC := Lib.hid (fun W => check_leaf h 0 W hK)
  have HK17 := Lib.hid (show k ≠ 17 by
    rcases h with (⟨rfl, _⟩ | ⟨rfl, _⟩ | ⟨rfl, _⟩ | ⟨rfl, _⟩ | ⟨rfl, _⟩ | ⟨rfl, _⟩) | ⟨rfl | rfl | rfl, _⟩ <;> omega)
  have HB := Lib.hid (show Below w.heap.size w ((w.alloc (.cells #[.int .i64 k, .int .i64 n, .int .u64 (u : Int), .string ⟨s.toArray⟩, .slice none 0 0, .slice none 0 0] 26)).alloc (.cells #[.int .i64 0, .int .i64 0, .int .u64 0, .string ⟨#[]⟩, .slice none 0 0, .slice none 0 0] 26)) from ((Below.refl _ _).alloc (Nat.le_refl _) _).alloc (by simp) _)
  have hX := (Blk.new w 26 #[.int .i64 k, .int .i64 n, .int .u64 (u : Int), .string ⟨s.toArray⟩, .slice none 0 0, .slice none 0 0]).alloc (.cells #[.int .i64 0, .int .i64 0, .int .u64 0, .string ⟨#[]⟩, .slice none 0 0, .slice none 0 0] 26)
  have hR := blk_new2 w (.cells #[.int .i64 k, .int .i64 n, .int .u64 (u : Int), .string ⟨s.toArray⟩, .slice none 0 0, .slice none 0 0] 26) 26 #[.int .i64 0, .int .i64 0, .int .u64 0, .string ⟨#[]⟩, .slice none 0 0, .slice none 0 0]
  have HX := Lib.hid hX
  have HR := Lib.hid hR
  have HLT := Lib.hid (show w.heap.size ≤ w.heap.size + 1 by omega)
  clear hX hR hK h
  go_enter Tryz.func34, Tryz.ntmps34
  go_wp2_with fail
  go_at_call 13
  generalize ((w.alloc (.cells #[.int .i64 k, .int .i64 n, .int .u64 (u : Int), .string ⟨s.toArray⟩, .slice none 0 0, .slice none 0 0] 26)).alloc (.cells #[.int .i64 0, .int .i64 0, .int .u64 0, .string ⟨#[]⟩, .slice none 0 0, .slice none 0 0] 26)) = w1 at HB HX HR ⊢
  generalize w.heap.size + 1 = bR at HR HLT ⊢
  refine (HC.out _).mono ?_
  rintro e w2 ⟨rfl, hb⟩
  have HX2 := Lib.hid (HX.out.pure hb)
  have HR2 := Lib.hid (HR.out.pure hb)
  have HB2 := Lib.hid (pure_below HB.out hb)
  have x0 : w2.cell? ⟨w.heap.size, 0, none⟩ = some (.int .i64 k) := HX2.out.cell 0
  have x1 : w2.cell? ⟨w.heap.size, 1, none⟩ = some (.int .i64 n) := HX2.out.cell 1
  have x2 : w2.cell? ⟨w.heap.size, 2, none⟩ = some (.int .u64 (u : Int)) := HX2.out.cell 2
  have x3 : w2.cell? ⟨w.heap.size, 3, none⟩ = some (.string ⟨s.toArray⟩) := HX2.out.cell 3
  have x4 : w2.cell? ⟨w.heap.size, 4, none⟩ = some (.slice none 0 0) := HX2.out.cell 4
  have x5 : w2.cell? ⟨w.heap.size, 5, none⟩ = some (.slice none 0 0) := HX2.out.cell 5
  clear hb
  go_wp2_with fail
  go_at_call 74
  refine (copy_leaf k n u s _).mono ?_
  rintro e w3 ⟨rfl, hb⟩
  have HR3 := Lib.hid (HR2.out.pure hb)
  have HB3 := Lib.hid (pure_below HB2.out hb)
  clear hb x0 x1 x2 x3 x4 x5
  go_wp2_with fail
  go_at_call 73
  refine (ksort_leaf k n u s _ HK17.out).mono ?_
  rintro e w4 ⟨rfl, hb⟩
  have HR4 := Lib.hid (HR3.out.pure hb)
  have HB4 := Lib.hid (pure_below HB3.out hb)
  have r0 : w4.cell? ⟨bR, 0, none⟩ = some (.int .i64 0) := HR4.out.cell 0
  have r1 : w4.cell? ⟨bR, 1, none⟩ = some (.int .i64 0) := HR4.out.cell 1
  have r2 : w4.cell? ⟨bR, 2, none⟩ = some (.int .u64 0) := HR4.out.cell 2
  have r3 : w4.cell? ⟨bR, 3, none⟩ = some (.string ⟨#[]⟩) := HR4.out.cell 3
  have r4 : w4.cell? ⟨bR, 4, none⟩ = some (.slice none 0 0) := HR4.out.cell 4
  have r5 : w4.cell? ⟨bR, 5, none⟩ = some (.slice none 0 0) := HR4.out.cell 5
  have f0 := HR4.out.frozen 0
  have f1 := HR4.out.frozen 1
  have f2 := HR4.out.frozen 2
  have f3 := HR4.out.frozen 3
  have f4 := HR4.out.frozen 4
  have f5 := HR4.out.frozen 5
  clear hb
  go_wp2_with fail
  have hF := (((((HR4.out.set_ 0 (.int .i64 k)).set_ 1 (.int .i64 n)).set_ 2 (.int .u64 (u : Int))).set_ 3 (.string ⟨s.toArray⟩)).set_ 4 (.slice none 0 0)).set_ 5 (.slice none 0 0)
  have hBF := (((((HB4.out.setCell (p := ⟨bR, 0, none⟩) HLT.out (.int .i64 k)).setCell (p := ⟨bR, 1, none⟩) HLT.out (.int .i64 n)).setCell (p := ⟨bR, 2, none⟩) HLT.out (.int .u64 (u : Int))).setCell (p := ⟨bR, 3, none⟩) HLT.out (.string ⟨s.toArray⟩)).setCell (p := ⟨bR, 4, none⟩) HLT.out (.slice none 0 0)).setCell (p := ⟨bR, 5, none⟩) HLT.out (.slice none 0 0)
  clear r0 r1 r2 r3 r4 r5 f0 f1 f2 f3 f4 f5
  generalize (((((w4.setCell ⟨bR, 0, none⟩ (.int .i64 k)).setCell ⟨bR, 1, none⟩ (.int .i64 n)).setCell ⟨bR, 2, none⟩ (.int .u64 (u : Int))).setCell ⟨bR, 3, none⟩ (.string ⟨s.toArray⟩)).setCell ⟨bR, 4, none⟩ (.slice none 0 0)).setCell ⟨bR, 5, none⟩ (.slice none 0 0) = wF at hF hBF ⊢
  have r0 : wF.cell? ⟨bR, 0, none⟩ = some (.int .i64 k) := hF.cell 0
  have r1 : wF.cell? ⟨bR, 1, none⟩ = some (.int .i64 n) := hF.cell 1
  have r2 : wF.cell? ⟨bR, 2, none⟩ = some (.int .u64 (u : Int)) := hF.cell 2
  have r3 : wF.cell? ⟨bR, 3, none⟩ = some (.string ⟨s.toArray⟩) := hF.cell 3
  have r4 : wF.cell? ⟨bR, 4, none⟩ = some (.slice none 0 0) := hF.cell 4
  have r5 : wF.cell? ⟨bR, 5, none⟩ = some (.slice none 0 0) := hF.cell 5
  refine bodyPost_ret (v := .tuple #[.agg #[.int .i64 k, .int .i64 n, .int .u64 (u : Int), .string ⟨s.toArray⟩, .slice none 0 0, .slice none 0 0], .int .i64 0]) (by simp [results, Tryz.results34, go_sem, r0, r1, r2, r3, r4, r5]) rfl ⟨rfl, hBF⟩
end Go.Proofs.YtjhigmgkmmjlfaaGreat

namespace Go.Proofs.YtjhigmgkmmjlfaaGreat
open Go.RowKit Go.Acc
/-- The error of a key. -/
def kErr (s : List UInt8) : Int := if hasZero s = true then 70 else 0
set_option maxRecDepth 100000 in
set_option maxHeartbeats 1000000 in
theorem keyed_5 (n : Int) (u : Nat) (s : List UInt8) (A : Option Addr) (ac : Nat) (B : Option Addr) (bc : Nat) (w : World) : Calls Tryz.prog 55 #[.agg #[.int .i64 5, .int .i64 n, .int .u64 (u : Int), .string ⟨s.toArray⟩, .slice A 0 ac, .slice B 0 bc]] w fun e w' => e = .returned (.int .i64 (kErr s)) ∧ Below w.heap.size w w' := by
  have h0 := run_makeMap (P := Tryz.prog) 149
  have HB0 := Lib.hid (show Below w.heap.size w (w.alloc (.cells #[.int .i64 5, .int .i64 n, .int .u64 (u : Int), .string ⟨s.toArray⟩, .slice A 0 ac, .slice B 0 bc] 26)) from ((Below.refl _ _).alloc (Nat.le_refl _) _))
  have HB := Lib.hid (show Below w.heap.size w ((w.alloc (.cells #[.int .i64 5, .int .i64 n, .int .u64 (u : Int), .string ⟨s.toArray⟩, .slice A 0 ac, .slice B 0 bc] 26)).alloc (.map #[] 0)) from ((Below.refl _ _).alloc (Nat.le_refl _) _).alloc (by simp) _)
  have hX := (Blk.new w 26 #[.int .i64 5, .int .i64 n, .int .u64 (u : Int), .string ⟨s.toArray⟩, .slice A 0 ac, .slice B 0 bc]).alloc (.map #[] 0)
  have c4 : ((w.alloc (.cells #[.int .i64 5, .int .i64 n, .int .u64 (u : Int), .string ⟨s.toArray⟩, .slice A 0 ac, .slice B 0 bc] 26)).alloc (.map #[] 0)).cell? ⟨w.heap.size, 4, none⟩ = some (.slice A 0 ac) := hX.cell 4
  obtain ⟨z, hz⟩ : ∃ z, hasZero s = z := ⟨_, rfl⟩
  have HK := Lib.hid (show kErr s = if z = true then 70 else 0 by unfold kErr; rw [hz])
  have HZ := Lib.hid hz
  clear hX hz
  cases z with
  | true =>
    go_enter Tryz.func55, Tryz.ntmps55
    go_wp2_with (go_at_call 101; refine (zero_spec s true _ HZ.out).mono ?_; rintro e w' ⟨rfl, rfl⟩)
    go_ret
    exact ⟨by rw [HK.out]; rfl, HB0.out⟩
  | false =>
    go_enter Tryz.func55, Tryz.ntmps55
    go_wp2_with (go_at_call 101; refine (zero_spec s false _ HZ.out).mono ?_; rintro e w' ⟨rfl, rfl⟩)
    refine wp_loop_rounds 1 ?_
    repeat (rw [rounds_succ]; go_wp2)
    all_goals
      go_ret
      exact ⟨by rw [HK.out]; rfl, HB.out⟩
set_option maxRecDepth 100000 in
set_option maxHeartbeats 2000000 in
theorem ksorted_err (k n : Int) (u : Nat) (s : List UInt8) (ke : Int) (w : World) (he : ke ≠ 0)
    (hC : ∀ W, Calls Tryz.prog 13 #[.agg #[.int .i64 k, .int .i64 n, .int .u64 (u : Int), .string ⟨s.toArray⟩, .slice none 0 0, .slice none 0 0]] W fun e W' => e = .returned (.int .i64 ke) ∧ Below W.heap.size W W') :
    Calls Tryz.prog 34 #[.agg #[.int .i64 k, .int .i64 n, .int .u64 (u : Int), .string ⟨s.toArray⟩, .slice none 0 0, .slice none 0 0]] w fun e w' => e = .returned (.tuple #[.agg #[.int .i64 0, .int .i64 0, .int .u64 0, .string ⟨#[]⟩, .slice none 0 0, .slice none 0 0], .int .i64 ke]) ∧ Below w.heap.size w w' := by
  have HC := Lib.hid hC
  have hne : (ke != 0) = true := by simpa using he
  have HB := Lib.hid (show Below w.heap.size w ((w.alloc (.cells #[.int .i64 k, .int .i64 n, .int .u64 (u : Int), .string ⟨s.toArray⟩, .slice none 0 0, .slice none 0 0] 26)).alloc (.cells #[.int .i64 0, .int .i64 0, .int .u64 0, .string ⟨#[]⟩, .slice none 0 0, .slice none 0 0] 26)) from ((Below.refl _ _).alloc (Nat.le_refl _) _).alloc (by simp) _)
  have hR := blk_new2 w (.cells #[.int .i64 k, .int .i64 n, .int .u64 (u : Int), .string ⟨s.toArray⟩, .slice none 0 0, .slice none 0 0] 26) 26 #[.int .i64 0, .int .i64 0, .int .u64 0, .string ⟨#[]⟩, .slice none 0 0, .slice none 0 0]
  have HR := Lib.hid hR
  have HLT := Lib.hid (show w.heap.size ≤ w.heap.size + 1 by omega)
  clear hR hC he
  go_enter Tryz.func34, Tryz.ntmps34
  go_wp2_with fail
  go_at_call 13
  generalize ((w.alloc (.cells #[.int .i64 k, .int .i64 n, .int .u64 (u : Int), .string ⟨s.toArray⟩, .slice none 0 0, .slice none 0 0] 26)).alloc (.cells #[.int .i64 0, .int .i64 0, .int .u64 0, .string ⟨#[]⟩, .slice none 0 0, .slice none 0 0] 26)) = w1 at HB HR ⊢
  generalize w.heap.size + 1 = bR at HR HLT ⊢
  refine (HC.out _).mono ?_
  rintro e w4 ⟨rfl, hb⟩
  have HR4 := Lib.hid (HR.out.pure hb)
  have HB4 := Lib.hid (pure_below HB.out hb)
  have r0 : w4.cell? ⟨bR, 0, none⟩ = some (.int .i64 0) := HR4.out.cell 0
  have r1 : w4.cell? ⟨bR, 1, none⟩ = some (.int .i64 0) := HR4.out.cell 1
  have r2 : w4.cell? ⟨bR, 2, none⟩ = some (.int .u64 0) := HR4.out.cell 2
  have r3 : w4.cell? ⟨bR, 3, none⟩ = some (.string ⟨#[]⟩) := HR4.out.cell 3
  have r4 : w4.cell? ⟨bR, 4, none⟩ = some (.slice none 0 0) := HR4.out.cell 4
  have r5 : w4.cell? ⟨bR, 5, none⟩ = some (.slice none 0 0) := HR4.out.cell 5
  have f0 := HR4.out.frozen 0
  have f1 := HR4.out.frozen 1
  have f2 := HR4.out.frozen 2
  have f3 := HR4.out.frozen 3
  have f4 := HR4.out.frozen 4
  have f5 := HR4.out.frozen 5
  clear hb
  go_wp2_with fail
  have hF := (((((HR4.out.set_ 0 (.int .i64 0)).set_ 1 (.int .i64 0)).set_ 2 (.int .u64 0)).set_ 3 (.string ⟨#[]⟩)).set_ 4 (.slice none 0 0)).set_ 5 (.slice none 0 0)
  have hBF := (((((HB4.out.setCell (p := ⟨bR, 0, none⟩) HLT.out (.int .i64 0)).setCell (p := ⟨bR, 1, none⟩) HLT.out (.int .i64 0)).setCell (p := ⟨bR, 2, none⟩) HLT.out (.int .u64 0)).setCell (p := ⟨bR, 3, none⟩) HLT.out (.string ⟨#[]⟩)).setCell (p := ⟨bR, 4, none⟩) HLT.out (.slice none 0 0)).setCell (p := ⟨bR, 5, none⟩) HLT.out (.slice none 0 0)
  clear r0 r1 r2 r3 r4 r5 f0 f1 f2 f3 f4 f5
  generalize (((((w4.setCell ⟨bR, 0, none⟩ (.int .i64 0)).setCell ⟨bR, 1, none⟩ (.int .i64 0)).setCell ⟨bR, 2, none⟩ (.int .u64 0)).setCell ⟨bR, 3, none⟩ (.string ⟨#[]⟩)).setCell ⟨bR, 4, none⟩ (.slice none 0 0)).setCell ⟨bR, 5, none⟩ (.slice none 0 0) = wF at hF hBF ⊢
  have r0 : wF.cell? ⟨bR, 0, none⟩ = some (.int .i64 0) := hF.cell 0
  have r1 : wF.cell? ⟨bR, 1, none⟩ = some (.int .i64 0) := hF.cell 1
  have r2 : wF.cell? ⟨bR, 2, none⟩ = some (.int .u64 0) := hF.cell 2
  have r3 : wF.cell? ⟨bR, 3, none⟩ = some (.string ⟨#[]⟩) := hF.cell 3
  have r4 : wF.cell? ⟨bR, 4, none⟩ = some (.slice none 0 0) := hF.cell 4
  have r5 : wF.cell? ⟨bR, 5, none⟩ = some (.slice none 0 0) := hF.cell 5
  refine bodyPost_ret (v := .tuple #[.agg #[.int .i64 0, .int .i64 0, .int .u64 0, .string ⟨#[]⟩, .slice none 0 0, .slice none 0 0], .int .i64 ke]) (by simp [results, Tryz.results34, go_sem, r0, r1, r2, r3, r4, r5]) rfl ⟨rfl, hBF⟩
end Go.Proofs.YtjhigmgkmmjlfaaGreat

namespace Go.Proofs.YtjhigmgkmmjlfaaGreat
open Go.RowKit Go.Acc
attribute [local go_sem] Oper.semAt_some
theorem widths_spec (w : World) : Calls Tryz.prog 255 #[] w fun e w' => e = .returned (.func (.func 273) #[] #[]) ∧ w = w' := by
  go_enter Tryz.func255, Tryz.ntmps255
  go_wp2
  go_ret
  exact ⟨rfl, rfl⟩
theorem leastW_first {f : Nat → Bool} {y : Fin 4} {pre : List (Fin 4)} (hp : pre ++ [y] <+: ws4) (h : ∀ z ∈ pre, f (2 ^ z.val) = false) (hy : f (2 ^ y.val) = true) : leastW f = 2 ^ y.val := by
  unfold leastW
  obtain ⟨r, hr⟩ := hp
  rcases pre with _ | ⟨a, _ | ⟨b, _ | ⟨c, _ | ⟨d, pre⟩⟩⟩⟩
  · simp [ws4] at hr
    obtain ⟨rfl, _⟩ := hr
    rw [if_pos (show f 1 = true from hy)]
    rfl
  · simp [ws4] at hr
    obtain ⟨rfl, rfl, _⟩ := hr
    have h0 : f 1 = false := h 0 (by simp)
    rw [if_neg (by rw [h0]; decide), if_pos (show f 2 = true from hy)]
    rfl
  · simp [ws4] at hr
    obtain ⟨rfl, rfl, rfl, _⟩ := hr
    have h0 : f 1 = false := h 0 (by simp)
    have h1 : f 2 = false := h 1 (by simp)
    rw [if_neg (by rw [h0]; decide), if_neg (by rw [h1]; decide), if_pos (show f 4 = true from hy)]
    rfl
  · simp [ws4] at hr
    obtain ⟨rfl, rfl, rfl, rfl, _⟩ := hr
    have h0 : f 1 = false := h 0 (by simp)
    have h1 : f 2 = false := h 1 (by simp)
    have h2 : f 4 = false := h 2 (by simp)
    rw [if_neg (by rw [h0]; decide), if_neg (by rw [h1]; decide), if_neg (by rw [h2]; decide), if_pos (show f 8 = true from hy)]
    rfl
  · exfalso
    have := congrArg List.length hr
    simp [ws4] at this
theorem leastW_no {f : Nat → Bool} (h : ∀ z ∈ ws4, f (2 ^ z.val) = false) : leastW f = 0 := by
  unfold leastW
  have h0 : f 1 = false := h 0 (by decide)
  have h1 : f 2 = false := h 1 (by decide)
  have h2 : f 4 = false := h 2 (by decide)
  have h3 : f 8 = false := h 3 (by decide)
  rw [h0, h1, h2, h3]
  rfl
set_option maxRecDepth 100000 in
set_option maxHeartbeats 2000000 in
theorem least_spec (F : Nat) (caps : Array Value) (f : Nat → Bool) (w : World)
    (hF : ∀ (args : Array Value) (w : World), (callFunc F args).run Tryz.prog w = .ok (.enter F args) w)
    (hf : ∀ y : Fin 4, ∀ W, Below w.heap.size w W → Calls Tryz.prog F (#[.int .i64 ((2 ^ y.val : Nat) : Int)] ++ caps) W fun e W' => e = .returned (.bool (f (2 ^ y.val))) ∧ Below W.heap.size W W') :
    Calls Tryz.prog 214 #[.func (.func F) #[] caps] w fun e w' => e = .returned (.int .i64 (leastW f : Nat)) ∧ Below w.heap.size w w' := by
  have HF := Lib.hid hf
  clear hf
  refine callsIn_wide.1 (callsIn_of_wp_marks (n := 6) Tryz.func214 rfl trivial (wpIn_wide.2 ?_))
  simp only [Tryz.ntmps214, List.size_toArray, List.length_cons, List.length_nil, Nat.reduceAdd, Nat.reduceSub, Array.replicate_succ, Array.replicate_zero, List.push_toArray, List.append_toArray, List.nil_append, List.cons_append]
  have HB := Lib.hid (show Below w.heap.size w ((w.alloc (.cells #[.func (.func F) #[] caps] 43)).alloc (.cells #[.int .i64 0] 3)) from ((Below.refl _ _).alloc (Nat.le_refl _) _).alloc (by simp) _)
  have HX := Lib.hid ((Blk.new w 43 #[.func (.func F) #[] caps]).alloc (.cells #[.int .i64 0] 3))
  have HY := Lib.hid (blk_new2 w (.cells #[.func (.func F) #[] caps] 43) 3 #[.int .i64 0])
  go_wp2_with (go_at_call 255; refine (widths_spec _).mono ?_; rintro e w' ⟨rfl, rfl⟩)
  have HN0 := Lib.hid (show w.heap.size ≤ w.heap.size from Nat.le_refl _)
  generalize (w.alloc (.cells #[.func (.func F) #[] caps] 43)).alloc (.cells #[.int .i64 0] 3) = w1 at HB HX HY ⊢
  obtain ⟨n0, hn0⟩ : ∃ n0, w.heap.size = n0 := ⟨_, rfl⟩
  have HSL := Lib.hid (show n0 ≤ n0 + 1 by omega)
  rw [hn0] at HB HX HY HF ⊢
  have HNN := Lib.hid hn0
  have HN1 := Lib.hid (show n0 ≤ w1.heap.size from by rw [← hn0]; have := HB.out.size; omega)
  generalize n0 + 1 = bY at HSL HY ⊢
  clear HN0 hn0
  refine (wpIn_wide (n := 6)).1 ?_
  refine wpin_a fun a0 ha0 => ?_
  refine wpIn_rangeFunc_ownH rfl (by omega) (gf := 273) (lb := #[]) (by rw [ha0]; rfl) trivial (enters_of Tryz.func273 (by kernel_rfl) rfl)
    (widths1_stops w1 (6 - 1) (by omega)) (fun _ _ => trivial) (fun _ _ _ _ _ _ _ _ => trivial) (Below.refl _ _) (fun _ => rfl)
    (fun pre W => (Blk W n0 43 #[.func (.func F) #[] caps] ∧ Blk W bY 3 #[.int .i64 0] ∧ ∀ z ∈ pre, f (2 ^ z.val) = false) ∧ Below n0 w W)
    (fun c pre W => (c = .ret ∧ ∃ p y, pre = p ++ [y] ∧ (∀ z ∈ p, f (2 ^ z.val) = false) ∧ f (2 ^ y.val) = true ∧ Blk W bY 3 #[.int .i64 ((2 ^ y.val : Nat) : Int)]) ∧ Below n0 w W)
    (OwnFrom.and (fun s A B row hs hg hr => ⟨bkept hg (fun r e => (hr r e).2) hs.1, bkept hg (fun r e => (hr r e).2) hs.2.1, hs.2.2⟩) (ownFrom_below (Nat.le_of_eq HNN.out.symm) HN1.out))
    (fun c => OwnFrom.and (fun s A B row hs hg hr => by obtain ⟨h1, p, y, h2, h3, h4, h5⟩ := hs; exact ⟨h1, p, y, h2, h3, h4, bkept hg (fun r e => (hr r e).2) h5⟩) (ownFrom_below (Nat.le_of_eq HNN.out.symm) HN1.out))
    ⟨⟨HX.out, HY.out, fun i h => by cases h⟩, HB.out⟩
    (fun x a' W => a' = { tmps := (a0.tmps.setIfInBounds 5 (.int .i64 ((2 ^ x.val : Nat) : Int))).setIfInBounds 3 (.int .i64 ((2 ^ x.val : Nat) : Int)), defers := [] })
    (fun x a' _ A B row hs hg hr => hs)
    ?assign ?body ?done ?stop
  case assign =>
    rintro l pre x W K ⟨⟨hX, hY, hall⟩, hB⟩ hK
    have HQ := Lib.hid hK
    have HALL := Lib.hid hall
    clear hK hall HX HY HB
    subst ha0
    unfold encW
    generalize ((2 ^ x.val : Nat) : Int) = z at HQ ⊢
    gi_wp2
    exact HQ.out _ _ (keepsFrom_p (Below.refl _ _)) trivial ⟨⟨hX, hY, HALL.out⟩, hB⟩ rfl
  case body =>
    rintro l pre x a' W hl ⟨rr, hrr⟩ ⟨⟨hX, hY, hall⟩, hB⟩ rfl hlt
    have HXX := Lib.hid hX
    have HYY := Lib.hid hY
    have HALL := Lib.hid hall
    have HBB := Lib.hid hB
    have x0 : W.cell? ⟨n0, 0, none⟩ = some (.func (.func F) #[] caps) := hX.cell 0
    have HC := Lib.hid (HF.out x W hB)
    clear hX hY hall hB HX HY HB hlt
    subst ha0
    obtain ⟨z, hz⟩ : ∃ z : Nat, 2 ^ x.val = z := ⟨_, rfl⟩
    have HZ := Lib.hid hz
    rw [hz] at HC ⊢
    obtain ⟨t, ht⟩ : ∃ t, f z = t := ⟨_, rfl⟩
    rw [ht] at HC
    have HT := Lib.hid ht
    clear hz ht
    gi_wp2
    refine ⟨trivial, (CallsIn.inRound l (callsIn_wide.2 HC.out)).mono ?_⟩
    rintro e W3 ⟨rfl, hb⟩
    have HB3 := Lib.hid hb
    have s0 : W3.cell? ⟨bY, 0, none⟩ = some (.int .i64 0) := (HYY.out.pure HB3.out).cell 0
    have s1 := (HYY.out.pure HB3.out).frozen 0
    have HB4 := Lib.hid (pure_below HBB.out HB3.out (Nat.le_of_eq HNN.out.symm))
    clear hb x0
    cases t with
    | false =>
      gi_wp2
      refine ⟨keepsFrom_p HB3.out, trivial, ⟨HXX.out.pure HB3.out, HYY.out.pure HB3.out, ?_⟩, HB4.out⟩
      intro j hj
      rcases List.mem_append.1 hj with hj | hj
      · exact HALL.out j hj
      · rw [List.mem_singleton.1 hj, HZ.out]
        exact HT.out
    | true =>
      gi_wp2
      exact ⟨(keepsFrom_p HB3.out).trans ((KeepsOthers.setCell _ _ _).from _), ⟨rfl, pre, x, rfl, HALL.out, by rw [HZ.out]; exact HT.out, by rw [HZ.out]; exact (HYY.out.pure HB3.out).set_ 0 _⟩, HB4.out.setCell (p := ⟨bY, 0, none⟩) HSL.out _⟩
  case done =>
    rintro D ys W hD rfl ⟨⟨hX, hY, hall⟩, hB⟩ hK
    subst ha0
    have hz := leastW_no hall
    have HZ := Lib.hid hz
    have s0 : W.cell? ⟨bY, 0, none⟩ = some (.int .i64 0) := hY.cell 0
    have s1 := hY.frozen 0
    have s2 := hY.set_ 0 (.int .i64 0)
    have hK' := (KeepsOthers.setCell W ⟨bY, 0, none⟩ (.int .i64 0)).same D _ hK rfl
    clear hz hall hX hY HX HY HB
    go_wp2_with fail
    refine ⟨by simp, .inl ⟨_, _, rfl, run_takeDeferred hK', ?_⟩⟩
    have hc5 := bkept (grownBy_putObj' _ D (.deferred none)) (fun r e => by cases e; exact ⟨_, hK', rfl⟩) s2
    have hc6 : _ = some (Value.int .i64 0) := hc5.cell 0
    refine ⟨.int .i64 0, ?_, by rw [HZ.out]; rfl, ?_⟩
    · simp [results, Tryz.f214, go_sem, hc6]
    · rw [HNN.out]
      exact (hB.setCell (p := ⟨bY, 0, none⟩) HSL.out _).trans (belowK_b (w := w) (Nat.le_of_eq HNN.out.symm) _ D _ _ (by have := HN1.out; have := HNN.out; omega) hK' rfl rfl)
  case stop =>
    rintro D c pre W hD hpre ⟨⟨rfl, p, y, rfl, hall, hy, hY⟩, hB⟩ hK
    have HZ := Lib.hid (leastW_first hpre hall hy)
    subst ha0
    clear hall hy HX HY HB hpre
    gi_wp2
    refine ⟨by simp, .inl ⟨_, _, rfl, run_takeDeferred hK, ?_⟩⟩
    have hc5 := bkept (grownBy_putObj' W D (.deferred none)) (fun r e => by cases e; exact ⟨_, hK, rfl⟩) hY
    have hc6 : _ = some (Value.int .i64 ((2 ^ y.val : Nat) : Int)) := hc5.cell 0
    refine ⟨.int .i64 ((2 ^ y.val : Nat) : Int), ?_, by rw [HZ.out], ?_⟩
    · simp [results, Tryz.f214, go_sem, hc6]
    · rw [HNN.out]
      exact hB.trans (belowK_b (w := w) (Nat.le_of_eq HNN.out.symm) _ D _ _ (by have := HN1.out; have := HNN.out; omega) hK rfl rfl)
end Go.Proofs.YtjhigmgkmmjlfaaGreat

namespace Go.Proofs.YtjhigmgkmmjlfaaGreat
open Go.RowKit Go.Acc
def tCells : Array Value := (tRows.flatMap fun r => [Value.int .i64 r.1, .int .i64 r.2.1, .int .i64 r.2.2]).toArray
def tZero : Array Value := Array.replicate 111 (Value.int .i64 0)
theorem tinfo : (Tryz.prog.info? 153).map (fun i => (i.zero, i.size)) = some (some (Value.agg tZero), 111) := by kernel_rfl
theorem upon_skip_of {P : Program} {o : Oper} {a : Act} {next : Act → World → Prop} {Q : Exit → Act → World → Prop} {r : Result Unit} {w' : World} (h : r = .ok () w') (hk : next (a.put o.dst undef) w') :
    o.upon P a next Q (r.andThen fun _ w' => .ok .skip w') := by subst h; exact hk
set_option maxRecDepth 100000 in
set_option maxHeartbeats 1000000 in
theorem tkinds_spec (w : World) : Calls Tryz.prog 106 #[] w fun e w' => e = .returned (.agg tCells) ∧ Below w.heap.size w w' := by
  have hz := (zero_of_info tinfo).1
  have hsz : tZero.size = 111 := rfl
  go_enter Tryz.func106, Tryz.ntmps106
  go_wp2
  refine upon_skip_of (w' := w.alloc (.cells tCells 153)) ?_ ?_
  · refine Eq.trans ?_ (run_storeCells_new (P := Tryz.prog) w 153 tZero tCells (by kernel_rfl) (by kernel_rfl) (by kernel_rfl))
    kernel_rfl
  · have hld := run_loadVar_new (P := Tryz.prog) w 153 tCells 37 101 Tryz.underlying153 (by kernel_rfl)
    clear hz hsz
    go_wp2
    refine bodyPost_ret (v := .agg tCells) ?_ rfl ⟨rfl, (Below.refl _ _).alloc (Nat.le_refl _) _⟩
    refine results_cell_row (fn := Tryz.f106) rfl _ _ w.heap.size 153 tCells (0, 0) _ ?_ (heap_alloc_last w _) Tryz.underlying153 rfl (by kernel_rfl)
    rfl
end Go.Proofs.YtjhigmgkmmjlfaaGreat
