/-
  Packages tree and key: Check, Copy and Sorted of a node without children.
  Package encode: Build of a node without children.
  Package scalar: the functions of the readers.
-/
import Derived.Test.YtjhigmgkmmjlfaaGreatQ19
namespace Go.Proofs.YtjhigmgkmmjlfaaGreat
open Go.RowKit Go.Acc
/-- A valid number, boolean or null; a valid string, blob or key. -/
def NumV (k n : Int) (u : Nat) (s : List UInt8) : Prop :=
  (k = 1 ∧ n = 0 ∧ u = 0 ∧ s = []) ∨ (k = 2 ∧ (n = 0 ∨ n = 1) ∧ u = 0 ∧ s = []) ∨ (k = 3 ∧ u = 0 ∧ s = []) ∨ (k = 4 ∧ n = 0 ∧ s = []) ∨ (k = 8 ∧ u = 0 ∧ s = []) ∨ (k = 9 ∧ n = 0 ∧ s = [])
def TxtV (k n : Int) (u : Nat) : Prop := (k = 5 ∨ k = 6 ∨ k = 7) ∧ n = 0 ∧ u = 0
theorem such_leaf {k n : Int} {u : Nat} {s : List UInt8} (h : NumV k n u s ∨ TxtV k n u) (w : World) : Calls Tryz.prog 54 #[.agg #[.int .i64 k, .int .i64 n, .int .u64 (u : Int), .string ⟨s.toArray⟩, .slice none 0 0, .slice none 0 0]] w fun e w' => e = .returned (.bool true) ∧ Below w.heap.size w w' := by
  rcases h with (⟨rfl, rfl, rfl, rfl⟩ | ⟨rfl, rfl | rfl, rfl, rfl⟩ | ⟨rfl, rfl, rfl⟩ | ⟨rfl, rfl, rfl⟩ | ⟨rfl, rfl, rfl⟩ | ⟨rfl, rfl, rfl⟩) | ⟨rfl | rfl | rfl, rfl, rfl⟩
  · exact such_1 none 0 none 0 w
  · exact such_20 none 0 none 0 w
  · exact such_21 none 0 none 0 w
  · exact such_3 n none 0 none 0 w
  · exact such_4 u none 0 none 0 w
  · exact such_8 n none 0 none 0 w
  · exact such_9 u none 0 none 0 w
  · exact such_5 s none 0 none 0 w
  · exact such_6 s none 0 none 0 w
  · exact such_7 s none 0 none 0 w
theorem leaf_ord (k n : Int) (u : Nat) (s : List UInt8) (w : World) (p : Nat → Prop) : NodeO w p 0 ⟨k, n, u, s, none, 0, 0, none, 0, 0⟩ (.mk k n u s [] []) [(0, ⟨k, n, u, s, none, 0, 0, none, 0, 0⟩)] :=
  NodeO.mk (x := ⟨k, n, u, s, none, 0, 0, none, 0, 0⟩) (ks := []) (l := []) (vs := []) (yss := []) (Is.nil _ _) (fun _ h => by cases h) (Nat.le_refl _) (Nat.zero_le _) (Is.nil _ _) (fun _ h => by cases h) (Nat.le_refl _) (Nat.zero_le _) rfl rfl (fun i v t ys h => by simp at h)
/-- Check of such a node: the error of its keys. -/
theorem check_leaf {k n : Int} {u : Nat} {s : List UInt8} (h : NumV k n u s ∨ TxtV k n u) (ke : Int) (w : World)
    (hK : ∀ W, Calls Tryz.prog 55 #[.agg #[.int .i64 k, .int .i64 n, .int .u64 (u : Int), .string ⟨s.toArray⟩, .slice none 0 0, .slice none 0 0]] W fun e W' => e = .returned (.int .i64 ke) ∧ Below W.heap.size W W') :
    Calls Tryz.prog 13 #[.agg #[.int .i64 k, .int .i64 n, .int .u64 (u : Int), .string ⟨s.toArray⟩, .slice none 0 0, .slice none 0 0]] w fun e w' => e = .returned (.int .i64 ke) ∧ Below w.heap.size w w' := by
  refine check_gen ⟨k, n, u, s, none, 0, 0, none, 0, 0⟩ (.mk k n u s [] []) [(0, ⟨k, n, u, s, none, 0, 0, none, 0, 0⟩)] (fun _ => False) w (fun _ => true) (fun _ => ke) ke (leaf_ord k n u s w _) (fun _ h => h.elim) (show (1 : Nat) ≤ 1099511627776 by omega) (fun y hy => by simp at hy; subst hy; exact Nat.zero_le _) ?_ ?_ ?_
  · intro i y W hy _
    obtain ⟨hi, rfl⟩ := List.getElem?_eq_some_iff.1 hy
    simp at hi
    subst hi
    exact such_leaf h W
  · intro i y W hy _
    obtain ⟨hi, rfl⟩ := List.getElem?_eq_some_iff.1 hy
    simp at hi
    subst hi
    exact hK W
  · show firstE _ 1 = ke
    unfold firstE firstE
    simp [errI, errP]
theorem clones_nil (w : World) : Calls Tryz.prog 113 #[.slice none 0 0] w fun e w' => e = .returned (.slice none 0 0) ∧ w = w' := by
  have hnil := fun (w : World) (A : Option Addr) (n c : Nat) => Lib.run_eql_slice_nil (P := Tryz.prog) w 23 9 A n c 0 0 Tryz.underlying23
  go_enter Tryz.func113, Tryz.ntmps113
  go_wp2
  go_ret
  exact ⟨rfl, rfl⟩
set_option maxRecDepth 100000 in
set_option maxHeartbeats 2000000 in
theorem copy_leaf (k n : Int) (u : Nat) (s : List UInt8) (w : World) : Calls Tryz.prog 74 #[.agg #[.int .i64 k, .int .i64 n, .int .u64 (u : Int), .string ⟨s.toArray⟩, .slice none 0 0, .slice none 0 0]] w fun e w' => e = .returned (.agg #[.int .i64 k, .int .i64 n, .int .u64 (u : Int), .string ⟨s.toArray⟩, .slice none 0 0, .slice none 0 0]) ∧ Below w.heap.size w w' := by
  go_enter Tryz.func74, Tryz.ntmps74
  go_wp2_with (go_at_call 113; refine (clones_nil _).mono ?_; rintro e w' ⟨rfl, rfl⟩)
  refine wp_loop_rounds 1 ?_
  repeat (rw [rounds_succ]; go_wp2)
  all_goals
    refine bodyPost_ret (v := .agg #[.int .i64 k, .int .i64 n, .int .u64 (u : Int), .string ⟨s.toArray⟩, .slice none 0 0, .slice none 0 0]) (by simp [results, Tryz.results74, go_sem]) rfl ⟨rfl, ?_⟩
    exact ((Below.refl _ _).alloc (Nat.le_refl _) _).alloc (by simp) _
set_option maxRecDepth 100000 in
set_option maxHeartbeats 2000000 in
theorem ksort_leaf (k n : Int) (u : Nat) (s : List UInt8) (w : World) (hk : k ≠ 17) : Calls Tryz.prog 73 #[.agg #[.int .i64 k, .int .i64 n, .int .u64 (u : Int), .string ⟨s.toArray⟩, .slice none 0 0, .slice none 0 0]] w fun e w' => e = .returned (.agg #[.int .i64 k, .int .i64 n, .int .u64 (u : Int), .string ⟨s.toArray⟩, .slice none 0 0, .slice none 0 0]) ∧ Below w.heap.size w w' := by
  have e17 : (k == 17) = false := by simpa using hk
  clear hk
  go_enter Tryz.func73, Tryz.ntmps73
  go_wp2
  refine wp_loop_rounds 1 ?_
  repeat (rw [rounds_succ]; go_wp2)
  all_goals
    refine bodyPost_ret (v := .agg #[.int .i64 k, .int .i64 n, .int .u64 (u : Int), .string ⟨s.toArray⟩, .slice none 0 0, .slice none 0 0]) (by simp [results, Tryz.results73, go_sem]) rfl ⟨rfl, ?_⟩
    exact ((Below.refl _ _).alloc (Nat.le_refl _) _).alloc (by simp) _
set_option maxRecDepth 100000 in
set_option maxHeartbeats 2000000 in
theorem ksorted_leaf {k n : Int} {u : Nat} {s : List UInt8} (h : NumV k n u s ∨ TxtV k n u) (w : World)
    (hK : ∀ W, Calls Tryz.prog 55 #[.agg #[.int .i64 k, .int .i64 n, .int .u64 (u : Int), .string ⟨s.toArray⟩, .slice none 0 0, .slice none 0 0]] W fun e W' => e = .returned (.int .i64 0) ∧ Below W.heap.size W W') :
    Calls Tryz.prog 34 #[.agg #[.int .i64 k, .int .i64 n, .int .u64 (u : Int), .string ⟨s.toArray⟩, .slice none 0 0, .slice none 0 0]] w fun e w' => e = .returned (.tuple #[.agg #[.int .i64 k, .int .i64 n, .int .u64 (u : Int), .string ⟨s.toArray⟩, .slice none 0 0, .slice none 0 0], .int .i64 0]) ∧ Below w.heap.size w w' := by
  have HC := Lib.hid (fun W => check_leaf h 0 W hK)
  have HK17 := Lib.hid (show k ≠ 17 by
    rcases h with (⟨rfl, _⟩ | ⟨rfl, _⟩ | ⟨rfl, _⟩ | ⟨rfl, _⟩ | ⟨rfl, _⟩ | ⟨rfl, _⟩) | ⟨rfl | rfl | rfl, _⟩ <;> omega)
  have HB := Lib.hid (show Below w.heap.size w ((w.alloc (.cells #[.int .i64 k, .int .i64 n, .int .u64 (u : Int), .string ⟨s.toArray⟩, .slice none 0 0, .slice none 0 0] 26)).alloc (.cells #[.int .i64 0, .int .i64 0, .int .u64 0, .string ⟨#[]⟩, .slice none 0 0, .slice none 0 0] 26)) from ((Below.refl _ _).alloc (Nat.le_refl _) _).alloc (by simp) _)
  have hX := (Blk.new w 26 #[.int .i64 k, .int .i64 n, .int .u64 (u : Int), .string ⟨s.toArray⟩, .slice none 0 0, .slice none 0 0]).alloc (.cells #[.int .i64 0, .int .i64 0, .int .u64 0, .string ⟨#[]⟩, .slice none 0 0, .slice none 0 0] 26)
  have hR := blk_new2 w (.cells #[.int .i64 k, .int .i64 n, .int .u64 (u : Int), .string ⟨s.toArray⟩, .slice none 0 0, .slice none 0 0] 26) 26 #[.int .i64 0, .int .i64 0, .int .u64 0, .string ⟨#[]⟩, .slice none 0 0, .slice none 0 0]
  have HX := Lib.hid hX
  have HR := Lib.hid hR
  have HLT := Lib.hid (show w.heap.size ≤ w.heap.size + 1 by omega)
  clear hX hR hK h
  go_enter Tryz.func34, Tryz.ntmps34
  go_wp2_with fail
  go_at_call 13
  generalize ((w.alloc (.cells #[.int .i64 k, .int .i64 n, .int .u64 (u : Int), .string ⟨s.toArray⟩, .slice none 0 0, .slice none 0 0] 26)).alloc (.cells #[.int .i64 0, .int .i64 0, .int .u64 0, .string ⟨#[]⟩, .slice none 0 0, .slice none 0 0] 26)) = w1 at HB HX HR ⊢
  generalize w.heap.size + 1 = bR at HR HLT ⊢
  refine (HC.out _).mono ?_
  rintro e w2 ⟨rfl, hb⟩
  have HX2 := Lib.hid (HX.out.pure hb)
  have HR2 := Lib.hid (HR.out.pure hb)
  have HB2 := Lib.hid (pure_below HB.out hb)
  have x0 : w2.cell? ⟨w.heap.size, 0, none⟩ = some (.int .i64 k) := HX2.out.cell 0
  have x1 : w2.cell? ⟨w.heap.size, 1, none⟩ = some (.int .i64 n) := HX2.out.cell 1
  have x2 : w2.cell? ⟨w.heap.size, 2, none⟩ = some (.int .u64 (u : Int)) := HX2.out.cell 2
  have x3 : w2.cell? ⟨w.heap.size, 3, none⟩ = some (.string ⟨s.toArray⟩) := HX2.out.cell 3
  have x4 : w2.cell? ⟨w.heap.size, 4, none⟩ = some (.slice none 0 0) := HX2.out.cell 4
  have x5 : w2.cell? ⟨w.heap.size, 5, none⟩ = some (.slice none 0 0) := HX2.out.cell 5
  clear hb
  go_wp2_with fail
  go_at_call 74
  refine (copy_leaf k n u s _).mono ?_
  rintro e w3 ⟨rfl, hb⟩
  have HR3 := Lib.hid (HR2.out.pure hb)
  have HB3 := Lib.hid (pure_below HB2.out hb)
  clear hb x0 x1 x2 x3 x4 x5
  go_wp2_with fail
  go_at_call 73
  refine (ksort_leaf k n u s _ HK17.out).mono ?_
  rintro e w4 ⟨rfl, hb⟩
  have HR4 := Lib.hid (HR3.out.pure hb)
  have HB4 := Lib.hid (pure_below HB3.out hb)
  have r0 : w4.cell? ⟨bR, 0, none⟩ = some (.int .i64 0) := HR4.out.cell 0
  have r1 : w4.cell? ⟨bR, 1, none⟩ = some (.int .i64 0) := HR4.out.cell 1
  have r2 : w4.cell? ⟨bR, 2, none⟩ = some (.int .u64 0) := HR4.out.cell 2
  have r3 : w4.cell? ⟨bR, 3, none⟩ = some (.string ⟨#[]⟩) := HR4.out.cell 3
  have r4 : w4.cell? ⟨bR, 4, none⟩ = some (.slice none 0 0) := HR4.out.cell 4
  have r5 : w4.cell? ⟨bR, 5, none⟩ = some (.slice none 0 0) := HR4.out.cell 5
  have f0 := HR4.out.frozen 0
  have f1 := HR4.out.frozen 1
  have f2 := HR4.out.frozen 2
  have f3 := HR4.out.frozen 3
  have f4 := HR4.out.frozen 4
  have f5 := HR4.out.frozen 5
  clear hb
  go_wp2_with fail
  have hF := (((((HR4.out.set_ 0 (.int .i64 k)).set_ 1 (.int .i64 n)).set_ 2 (.int .u64 (u : Int))).set_ 3 (.string ⟨s.toArray⟩)).set_ 4 (.slice none 0 0)).set_ 5 (.slice none 0 0)
  have hBF := (((((HB4.out.setCell (p := ⟨bR, 0, none⟩) HLT.out (.int .i64 k)).setCell (p := ⟨bR, 1, none⟩) HLT.out (.int .i64 n)).setCell (p := ⟨bR, 2, none⟩) HLT.out (.int .u64 (u : Int))).setCell (p := ⟨bR, 3, none⟩) HLT.out (.string ⟨s.toArray⟩)).setCell (p := ⟨bR, 4, none⟩) HLT.out (.slice none 0 0)).setCell (p := ⟨bR, 5, none⟩) HLT.out (.slice none 0 0)
  clear r0 r1 r2 r3 r4 r5 f0 f1 f2 f3 f4 f5
  generalize (((((w4.setCell ⟨bR, 0, none⟩ (.int .i64 k)).setCell ⟨bR, 1, none⟩ (.int .i64 n)).setCell ⟨bR, 2, none⟩ (.int .u64 (u : Int))).setCell ⟨bR, 3, none⟩ (.string ⟨s.toArray⟩)).setCell ⟨bR, 4, none⟩ (.slice none 0 0)).setCell ⟨bR, 5, none⟩ (.slice none 0 0) = wF at hF hBF ⊢
  have r0 : wF.cell? ⟨bR, 0, none⟩ = some (.int .i64 k) := hF.cell 0
  have r1 : wF.cell? ⟨bR, 1, none⟩ = some (.int .i64 n) := hF.cell 1
  have r2 : wF.cell? ⟨bR, 2, none⟩ = some (.int .u64 (u : Int)) := hF.cell 2
  have r3 : wF.cell? ⟨bR, 3, none⟩ = some (.string ⟨s.toArray⟩) := hF.cell 3
  have r4 : wF.cell? ⟨bR, 4, none⟩ = some (.slice none 0 0) := hF.cell 4
  have r5 : wF.cell? ⟨bR, 5, none⟩ = some (.slice none 0 0) := hF.cell 5
  refine bodyPost_ret (v := .tuple #[.agg #[.int .i64 k, .int .i64 n, .int .u64 (u : Int), .string ⟨s.toArray⟩, .slice none 0 0, .slice none 0 0], .int .i64 0]) (by simp [results, Tryz.results34, go_sem, r0, r1, r2, r3, r4, r5]) rfl ⟨rfl, hBF⟩
end Go.Proofs.YtjhigmgkmmjlfaaGreat

namespace Go.Proofs.YtjhigmgkmmjlfaaGreat
open Go.RowKit Go.Acc
/-- A document is made. -/
def DocW (w : World) (m : List UInt8) (e : Ending) (w' : World) : Prop := ∃ A n c, e = .returned (.tuple #[.slice A n c, .int .i64 0]) ∧ OwnB w' w.heap.size A n c m ∧ Below w.heap.size w w'
theorem docw_lift {w W : World} {m : List UInt8} {e : Ending} {w' : World} (hB : Below w.heap.size w W) (h : DocW W m e w') : DocW w m e w' := by
  obtain ⟨A, n, c, he, hO, hB'⟩ := h
  exact ⟨A, n, c, he, hO.rebase hB.size, pure_trans hB hB'⟩
set_option maxRecDepth 100000 in
set_option maxHeartbeats 2000000 in
theorem capped_leaf (fl : Int) (b' : Bd) (v : Bv) (y : Nat) (k n : Int) (u : Nat) (s : List UInt8) (w : World)
    (hS : ∀ W, Calls Tryz.prog 34 #[.agg #[.int .i64 k, .int .i64 n, .int .u64 (u : Int), .string ⟨s.toArray⟩, .slice none 0 0, .slice none 0 0]] W fun e W' => e = .returned (.tuple #[.agg #[.int .i64 k, .int .i64 n, .int .u64 (u : Int), .string ⟨s.toArray⟩, .slice none 0 0, .slice none 0 0], .int .i64 0]) ∧ Below W.heap.size W W')
    (hC : ∀ M W o, BM M fl W o Bd.new → Calls Tryz.prog 93 #[.pointer (some ⟨M.β, 0, none⟩), .agg #[.int .i64 k, .int .i64 n, .int .u64 (u : Int), .string ⟨s.toArray⟩, .slice none 0 0, .slice none 0 0]] W (BTo M fl b' W o)) (hs : b'.s = [v]) (hf : FinOk b'.b v y) :
    Calls Tryz.prog 52 #[.agg #[.int .i64 k, .int .i64 n, .int .u64 (u : Int), .string ⟨s.toArray⟩, .slice none 0 0, .slice none 0 0], .int .i64 fl, .int .i64 1048576] w (DocW w (alignB y b'.b ++ leBytes y (elemN y (alignB y b'.b).length v) ++ [bTag y v, UInt8.ofNat y])) := by
  have HS := Lib.hid hS
  have HC := Lib.hid hC
  have HV := Lib.hid (And.intro hs hf)
  have HB := Lib.hid (show Below w.heap.size w (w.alloc (.cells #[.int .i64 k, .int .i64 n, .int .u64 (u : Int), .string ⟨s.toArray⟩, .slice none 0 0, .slice none 0 0] 26)) from (Below.refl _ _).alloc (Nat.le_refl _) _)
  clear hS hC hs hf
  go_enter Tryz.func52, Tryz.ntmps52
  go_wp2_with fail
  go_at_call 34
  refine (HS.out _).mono ?_
  rintro e w1 ⟨rfl, hb⟩
  have HB1 := Lib.hid (pure_below HB.out hb)
  clear hb
  have hB2 := (Below.refl w1.heap.size w1).alloc (Nat.le_refl _) (.cells #[.int .i64 k, .int .i64 n, .int .u64 (u : Int), .string ⟨s.toArray⟩, .slice none 0 0, .slice none 0 0] 26)
  have HX2 := Lib.hid (Blk.new w1 26 #[.int .i64 k, .int .i64 n, .int .u64 (u : Int), .string ⟨s.toArray⟩, .slice none 0 0, .slice none 0 0])
  have HB2 := Lib.hid (pure_below HB1.out hB2)
  clear hB2
  go_wp2_with fail
  go_at_call 92
  refine (cnew_spec fl _ (fun _ => 0)).mono ?_
  rintro e w3 ⟨M, o3, rfl, hM, hT⟩
  have hb3 := hT.below (fun _ _ h => h)
  have HX3 := Lib.hid (HX2.out.pure hb3)
  have HM3 := Lib.hid hM
  have HT3 := Lib.hid (hT.mono (J := Bld) fun _ h => h.elim)
  have HB3 := Lib.hid (pure_below HB2.out hb3)
  have x0 : w3.cell? ⟨w1.heap.size, 0, none⟩ = some (.int .i64 k) := HX3.out.cell 0
  have x1 : w3.cell? ⟨w1.heap.size, 1, none⟩ = some (.int .i64 n) := HX3.out.cell 1
  have x2 : w3.cell? ⟨w1.heap.size, 2, none⟩ = some (.int .u64 (u : Int)) := HX3.out.cell 2
  have x3 : w3.cell? ⟨w1.heap.size, 3, none⟩ = some (.string ⟨s.toArray⟩) := HX3.out.cell 3
  have x4 : w3.cell? ⟨w1.heap.size, 4, none⟩ = some (.slice none 0 0) := HX3.out.cell 4
  have x5 : w3.cell? ⟨w1.heap.size, 5, none⟩ = some (.slice none 0 0) := HX3.out.cell 5
  clear hM hT hb3
  go_wp2_with fail
  go_at_call 93
  refine (HC.out M _ o3 HM3.out).mono ?_
  rintro e w4 ⟨rfl, o4, hM4, hT4⟩
  have HM4 := Lib.hid hM4
  have HT4 := Lib.hid (HT3.out.trans hT4)
  clear hM4 hT4 x0 x1 x2 x3 x4 x5
  go_wp2_with fail
  go_at_call 94
  refine (finish_spec M fl b' v y _ o4 HM4.out HV.out.1 HV.out.2).mono ?_
  rintro e w5 ⟨A, m, c, rfl, hO, o5, hT5⟩
  have HO := Lib.hid hO
  have HT5 := Lib.hid (HT4.out.trans hT5)
  have HSZ := Lib.hid (show w.heap.size ≤ w4.heap.size from Nat.le_trans HB2.out.size HT4.out.size)
  clear hO hT5
  go_wp2_with fail
  go_ret2
  exact ⟨A, m, c, rfl, HO.out.rebase HSZ.out, pure_below HB2.out (HT5.out.below fun _ _ => bld_0)⟩
set_option maxHeartbeats 2000000 in
theorem build_lift (fl : Int) (k n : Int) (u : Nat) (s : List UInt8) (d : List UInt8) (w : World)
    (h : ∀ W, Calls Tryz.prog 52 #[.agg #[.int .i64 k, .int .i64 n, .int .u64 (u : Int), .string ⟨s.toArray⟩, .slice none 0 0, .slice none 0 0], .int .i64 fl, .int .i64 1048576] W (DocW W d)) :
    Calls Tryz.prog 12 #[.agg #[.int .i64 k, .int .i64 n, .int .u64 (u : Int), .string ⟨s.toArray⟩, .slice none 0 0, .slice none 0 0], .int .i64 fl] w (DocW w d) := by
  have HH := Lib.hid h
  have HB := Lib.hid (show Below w.heap.size w (w.alloc (.cells #[.int .i64 k, .int .i64 n, .int .u64 (u : Int), .string ⟨s.toArray⟩, .slice none 0 0, .slice none 0 0] 26)) from (Below.refl _ _).alloc (Nat.le_refl _) _)
  clear h
  go_enter Tryz.func12, Tryz.ntmps12
  go_wp2_with fail
  go_at_call 52
  refine (HH.out _).mono ?_
  intro e w1 hD
  obtain ⟨A, m, c, rfl, hO, hb⟩ := hD
  have HO := Lib.hid hO
  have HB1 := Lib.hid hb
  clear hO hb
  go_wp2_with fail
  go_ret2
  exact docw_lift HB.out ⟨A, m, c, rfl, HO.out, HB1.out⟩
end Go.Proofs.YtjhigmgkmmjlfaaGreat

namespace Go.Proofs.YtjhigmgkmmjlfaaGreat
open Go.RowKit Go.Acc
/-- A value: its sign and its amount. -/
def valV (s : Bool) (u : Nat) : Value := .agg #[.bool s, .int .u64 (u : Int)]
theorem loadU_64 (l : List UInt8) (a x : Int) : (loadU l a x : Int) < 18446744073709551616 := by
  unfold loadU
  split
  · rename_i h
    have h1 := isW_iff.1 h.1
    have hl := leVal_lt ((l.drop a.toNat).take x.toNat)
    have h8 : ((l.drop a.toNat).take x.toNat).length ≤ 8 := by
      have := List.length_take_le x.toNat (l.drop a.toNat)
      omega
    have := Nat.pow_le_pow_right (n := 2) (by omega) (Nat.mul_le_mul_left 8 h8)
    omega
  · omega
theorem sx_bnd {y u : Nat} (hy : y = 1 ∨ y = 2 ∨ y = 4 ∨ y = 8) (hu : u < 2 ^ (8 * y)) : -9223372036854775808 ≤ sx y u ∧ sx y u ≤ 9223372036854775807 := by
  unfold sx
  rcases hy with rfl | rfl | rfl | rfl <;> split <;> simp at * <;> omega
theorem loadI_64 (l : List UInt8) (a x : Int) : -9223372036854775808 ≤ loadI l a x ∧ loadI l a x ≤ 9223372036854775807 := by
  unfold loadI
  split
  · rename_i h
    have h1 := isW_iff.1 h.1
    have hx := loadU_lt l a x.toNat
    rw [show ((x.toNat : Nat) : Int) = x by omega] at hx
    exact sx_bnd (by omega) hx
  · omega
set_option maxRecDepth 100000 in
set_option maxHeartbeats 400000 in
theorem rd1_spec (A : Option Addr) (n c : Nat) (a x : Int) (w : World) : Calls Tryz.prog 163 #[.slice A n c, .int .i64 a, .int .i64 x] w fun e w' => e = .returned (valV false 0) ∧ Below w.heap.size w w' := by
  go_enter Tryz.func163, Tryz.ntmps163
  go_wp2
  refine bodyPost_ret (v := .agg #[.bool false, .int .u64 0]) (by simp [results, Tryz.results163, go_sem]) rfl ⟨rfl, ?_⟩
  exact (Below.refl _ _).alloc (Nat.le_refl _) _
set_option maxRecDepth 100000 in
set_option maxHeartbeats 400000 in
theorem without_spec (A : Option Addr) (n c : Nat) (a x : Int) (l : List UInt8) (w : World) (hl : IsB w A n l) (hc : n ≤ c) (hn : n ≤ 9223372036854775807) :
    Calls Tryz.prog 165 #[.slice A n c, .int .i64 a, .int .i64 x] w fun e w' => e = .returned (valV false (loadU l a x)) ∧ Below w.heap.size w w' := by
  have HL := Lib.hid (hl.alloc (.cells #[.bool false, .int .u64 0] 109))
  have HB := Lib.hid ((Below.refl w.heap.size w).alloc (Nat.le_refl _) (.cells #[.bool false, .int .u64 0] 109))
  have HK := Lib.hid (Blk.new w 109 #[.bool false, .int .u64 0])
  clear hl
  go_enter Tryz.func165, Tryz.ntmps165
  go_wp2_with fail
  go_at_call 62
  refine (load_spec A n c a x l _ HL.out hc hn).mono ?_
  rintro e w1 ⟨rfl, hb⟩
  have HB := Lib.hid (pure_below HB.out hb)
  have HK := Lib.hid (HK.out.pure hb)
  have c0 : w1.cell? ⟨w.heap.size, 0, none⟩ = some (.bool false) := HK.out.cell 0
  have c1 : w1.cell? ⟨w.heap.size, 1, none⟩ = some (.int .u64 0) := HK.out.cell 1
  have f0 := HK.out.frozen 0
  have f1 := HK.out.frozen 1
  clear hb
  go_wp2
  refine bodyPost_ret (v := .agg #[.bool false, .int .u64 (loadU l a x)]) (by simp [results, Tryz.results165, go_sem, c0, c1]) rfl ⟨rfl, ?_⟩
  exact (HB.out.setCell (Nat.le_refl _) _).setCell (Nat.le_refl _) _
set_option maxRecDepth 100000 in
set_option maxHeartbeats 400000 in
theorem rd2_spec (A : Option Addr) (n c : Nat) (a x : Int) (l : List UInt8) (w : World) (hl : IsB w A n l) (hc : n ≤ c) (hn : n ≤ 9223372036854775807) :
    Calls Tryz.prog 164 #[.slice A n c, .int .i64 a, .int .i64 x] w fun e w' => e = .returned (valV false (min (loadU l a x) 1)) ∧ Below w.heap.size w w' := by
  have HL := Lib.hid (hl.alloc (.cells #[.bool false, .int .u64 0] 109))
  have HB := Lib.hid ((Below.refl w.heap.size w).alloc (Nat.le_refl _) (.cells #[.bool false, .int .u64 0] 109))
  have HK := Lib.hid (Blk.new w 109 #[.bool false, .int .u64 0])
  have hf : ∀ W : World, (Instr.field 109 (.agg #[.bool false, .int .u64 (loadU l a x)]) 1).run Tryz.prog W = .ok (.int .u64 (loadU l a x)) W := by
    generalize (loadU l a x : Int) = u
    intro W
    kernel_rfl
  have hmin : (if (1 : Int) < (loadU l a x : Int) then (1 : Int) else (loadU l a x : Int)) = ((min (loadU l a x) 1 : Nat) : Int) := by
    split <;> omega
  obtain ⟨m, hm⟩ : ∃ m, min (loadU l a x) 1 = m := ⟨_, rfl⟩
  rw [hm] at hmin ⊢
  have hmh := Lib.hid hm
  clear hl hm
  go_enter Tryz.func164, Tryz.ntmps164
  go_wp2_with fail
  go_at_call 165
  refine (without_spec A n c a x l _ HL.out hc hn).mono ?_
  unfold valV
  rintro e w1 ⟨rfl, hb⟩
  have HB := Lib.hid (pure_below HB.out hb)
  have HK := Lib.hid (HK.out.pure hb)
  have c0 : w1.cell? ⟨w.heap.size, 0, none⟩ = some (.bool false) := HK.out.cell 0
  have c1 : w1.cell? ⟨w.heap.size, 1, none⟩ = some (.int .u64 0) := HK.out.cell 1
  have f0 := HK.out.frozen 0
  have f1 := HK.out.frozen 1
  clear hb
  go_wp2
  refine bodyPost_ret (v := .agg #[.bool false, .int .u64 m]) (by first | (simp [results, Tryz.results164, go_sem, c0, c1]; done) | (have hmo := hmh.out; simp [results, Tryz.results164, go_sem, c0, c1]; omega)) rfl ⟨rfl, ?_⟩
  exact (HB.out.setCell (Nat.le_refl _) _).setCell (Nat.le_refl _) _
set_option maxRecDepth 100000 in
set_option maxHeartbeats 400000 in
theorem with_spec (A : Option Addr) (n c : Nat) (a x : Int) (l : List UInt8) (w : World) (hl : IsB w A n l) (hc : n ≤ c) (hn : n ≤ 9223372036854775807) :
    Calls Tryz.prog 166 #[.slice A n c, .int .i64 a, .int .i64 x] w fun e w' => e = .returned (valV (decide (loadI l a x < 0)) (loadI l a x).natAbs) ∧ Below w.heap.size w w' := by
  have HL := Lib.hid (hl.alloc (.cells #[.bool false, .int .u64 0] 109))
  have HB := Lib.hid ((Below.refl w.heap.size w).alloc (Nat.le_refl _) (.cells #[.bool false, .int .u64 0] 109))
  have HK := Lib.hid (Blk.new w 109 #[.bool false, .int .u64 0])
  have hbd := loadI_64 l a x
  have b1 := hbd.1
  have b2 := hbd.2
  obtain ⟨i, hi⟩ : ∃ i, loadI l a x = i := ⟨_, rfl⟩
  rw [hi] at b1 b2 ⊢
  have HI := Lib.hid hi
  clear hl hbd hi
  go_enter Tryz.func166, Tryz.ntmps166
  go_wp2_with fail
  go_at_call 228
  refine (loadi_spec A n c a x l _ HL.out hc hn).mono ?_
  rw [HI.out]
  rintro e w1 ⟨rfl, hb⟩
  have HB := Lib.hid (pure_below HB.out hb)
  have HK := Lib.hid (HK.out.pure hb)
  have c0 : w1.cell? ⟨w.heap.size, 0, none⟩ = some (.bool false) := HK.out.cell 0
  have c1 : w1.cell? ⟨w.heap.size, 1, none⟩ = some (.int .u64 0) := HK.out.cell 1
  have f0 := HK.out.frozen 0
  have f1 := HK.out.frozen 1
  clear hb
  by_cases h0 : i < 0
  · have e1 : IntKind.u64.wrap (-IntKind.u64.wrap i) = ((i.natAbs : Nat) : Int) := by simp only [IntKind.wrap_u64]; omega
    have hd : decide (i < 0) = true := decide_eq_true h0
    have HE := Lib.hid e1
    have HD := Lib.hid hd
    clear e1 b1 b2
    go_wp2
    refine bodyPost_ret (v := .agg #[.bool true, .int .u64 (i.natAbs : Nat)]) (by simp [results, Tryz.results166, go_sem, c0, c1]; try exact HE.out) rfl ⟨by rw [HD.out]; rfl, ?_⟩
    exact (HB.out.setCell (Nat.le_refl _) _).setCell (Nat.le_refl _) _
  · have e1 : IntKind.u64.wrap i = ((i.natAbs : Nat) : Int) := by simp only [IntKind.wrap_u64]; omega
    have hd : decide (i < 0) = false := decide_eq_false h0
    have HE := Lib.hid e1
    have HD := Lib.hid hd
    clear e1 b1 b2
    go_wp2
    refine bodyPost_ret (v := .agg #[.bool false, .int .u64 (i.natAbs : Nat)]) (by simp [results, Tryz.results166, go_sem, c0, c1]; try exact HE.out) rfl ⟨by rw [HD.out]; rfl, ?_⟩
    exact (HB.out.setCell (Nat.le_refl _) _).setCell (Nat.le_refl _) _
end Go.Proofs.YtjhigmgkmmjlfaaGreat
