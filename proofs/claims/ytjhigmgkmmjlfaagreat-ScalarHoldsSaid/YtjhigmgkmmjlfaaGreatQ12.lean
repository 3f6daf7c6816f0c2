/-
  Package fit: the widths, one after another, and the first at which a function says yes.
  Package fit: the first width at which a function says yes.
  Packages tag, width and their references: the walks.
  Packages tag and width and their references: the walks.
-/
import Derived.Test.YtjhigmgkmmjlfaaGreatQ04
import Derived.Deep.DeepCutAuto
import Derived.RangeFuncNested
import Derived.RangeFuncBound
import Derived.RangeFuncCalls
import Derived.RangeFuncLeaves
import Derived.Shelf.Abstract
import Derived.Shelf.RegionOpen
import Derived.OwnWalkIn
import Derived.TacticsInMore
import Derived.LoopNIn
import Derived.LoopIn
import Derived.Deep.WholeRow
namespace Go.Proofs.YtjhigmgkmmjlfaaGreat
open Go.RowKit Go.Acc
attribute [local go_sem] Oper.semAt_some
theorem fwithin_spec (n : Nat) (w : World) (hn : n ≤ 1073741824) : Calls Tryz.prog 213 #[.int .i64 (n : Int)] w fun e w' => e = .returned (.bool true) ∧ w = w' := by
  have h0 : (0 : Int) ≤ (n : Int) := by omega
  have h1 : (n : Int) ≤ 1073741824 := by omega
  go_enter Tryz.func213, Tryz.ntmps213
  go_wp2
  go_ret
  exact ⟨rfl, rfl⟩
theorem bkept {W W' : World} {row : Option Nat} (hg : W.grownBy W' row) (hr : ∀ r, row = some r → ∃ o : Obj, W.heap[r]? = some o ∧ o.isCells = false) {g : Nat} {t : TypeId} {cs : Array Value} (h : Blk W g t cs) : Blk W' g t cs := (grownBy_keeps_cells hg hr h rfl).trans h
theorem keepsFrom_p {B : Nat} {W W' : World} (hb : Below W.heap.size W W') : KeepsFrom B W W' := ⟨hb.size, fun k _ _ hk _ => (hb.block k (Array.getElem?_eq_some_iff.1 hk).1).trans hk⟩
theorem wpin_a {F : Fence} {n : Nat} {P : Program} {c : Code} {Q : Exit → Act → World → Prop} {a : Act} {w : World} (h : ∀ a0, a0 = a → c.wpIn F n P Q a0 w) : c.wpIn F n P Q a w := h a rfl
/-- The widths, by their codes. -/
def ws4 : List (Fin 4) := [0, 1, 2, 3]
def encW (i : Fin 4) : Array Value := #[.int .i64 ((2 ^ i.val : Nat) : Int)]
set_option maxRecDepth 100000 in
set_option maxHeartbeats 2000000 in
theorem widths1_stops (w : World) (n : Nat) (hn : 1 ≤ n) :
    SeqStopsK Fence.wide n Tryz.prog 273 #[] encW (fun _ _ => True) (fun xs => xs = ws4) (fun pre => pre <+: ws4) 4 w := by
  intro l J Jx W hW hJ hJx hY h0
  have HJ := Lib.hid h0
  have HY := Lib.hid hY
  clear hW h0 hJ hY hJx
  refine callsIn_wide.2 ?_
  go_enter Tryz.func273, Tryz.ntmps273
  go_wp2_with fail
  go_loopw [2] (fun u wr => ∃ k : Nat, k ≤ 4 ∧ u = .int .i64 ((2 ^ k : Nat) : Int) ∧ J (ws4.take k) wr) (fun u _ => 16 - (intOf u).toNat)
  case atStart => exact ⟨0, by omega, rfl, HJ.out⟩
  case round =>
    clear HJ
    obtain ⟨k, hk, rfl, hJ1⟩ := hrel
    have HJ := Lib.hid hJ1
    clear hJ1
    obtain rfl | rfl | rfl | rfl | rfl : k = 0 ∨ k = 1 ∨ k = 2 ∨ k = 3 ∨ k = 4 := by omega
    · have HJK := Lib.hid (show J (ws4.take 0) wr from HJ.out)
      simp only [Nat.reducePow, Int.cast_ofNat_Int]
      clear HJ
      go_upto_region 3 with fail
      obtain ⟨fn, tmps, assign, body, hy, hR⟩ := HY.out (ws4.take 0) 0 _ HJK.out (by decide)
      rw [show encW 0 = #[.int .i64 1] from rfl] at hy
      refine (wpIn_wide (n := n)).1 ?_
      gi_wp2
      refine hR.mono ?_
      rintro e W9 (⟨rfl, hJ9, -⟩ | ⟨rfl, hJ9⟩)
      · have HJ9 := Lib.hid hJ9
        clear hJ9 hR hy HJK
        gi_wp2
        go_wp2_with fail
        go_roundw
        case rel => exact ⟨0 + 1, by omega, rfl, HJ9.out⟩
        case measure => simp [intOf]
      · have HJ9 := Lib.hid hJ9
        clear hJ9 hR hy HJK
        gi_wp2
        go_wp2_with fail
        refine bodyPost_ret (results_none rfl _ _ _) rfl ?_
        exact ⟨⟨_, rfl⟩, .inr ⟨[0], by decide, HJ9.out⟩⟩
    · have HJK := Lib.hid (show J (ws4.take 1) wr from HJ.out)
      simp only [Nat.reducePow, Int.cast_ofNat_Int]
      clear HJ
      go_upto_region 3 with fail
      obtain ⟨fn, tmps, assign, body, hy, hR⟩ := HY.out (ws4.take 1) 1 _ HJK.out (by decide)
      rw [show encW 1 = #[.int .i64 2] from rfl] at hy
      refine (wpIn_wide (n := n)).1 ?_
      gi_wp2
      refine hR.mono ?_
      rintro e W9 (⟨rfl, hJ9, -⟩ | ⟨rfl, hJ9⟩)
      · have HJ9 := Lib.hid hJ9
        clear hJ9 hR hy HJK
        gi_wp2
        go_wp2_with fail
        go_roundw
        case rel => exact ⟨1 + 1, by omega, rfl, HJ9.out⟩
        case measure => simp [intOf]
      · have HJ9 := Lib.hid hJ9
        clear hJ9 hR hy HJK
        gi_wp2
        go_wp2_with fail
        refine bodyPost_ret (results_none rfl _ _ _) rfl ?_
        exact ⟨⟨_, rfl⟩, .inr ⟨[0, 1], by decide, HJ9.out⟩⟩
    · have HJK := Lib.hid (show J (ws4.take 2) wr from HJ.out)
      simp only [Nat.reducePow, Int.cast_ofNat_Int]
      clear HJ
      go_upto_region 3 with fail
      obtain ⟨fn, tmps, assign, body, hy, hR⟩ := HY.out (ws4.take 2) 2 _ HJK.out (by decide)
      rw [show encW 2 = #[.int .i64 4] from rfl] at hy
      refine (wpIn_wide (n := n)).1 ?_
      gi_wp2
      refine hR.mono ?_
      rintro e W9 (⟨rfl, hJ9, -⟩ | ⟨rfl, hJ9⟩)
      · have HJ9 := Lib.hid hJ9
        clear hJ9 hR hy HJK
        gi_wp2
        go_wp2_with fail
        go_roundw
        case rel => exact ⟨2 + 1, by omega, rfl, HJ9.out⟩
        case measure => simp [intOf]
      · have HJ9 := Lib.hid hJ9
        clear hJ9 hR hy HJK
        gi_wp2
        go_wp2_with fail
        refine bodyPost_ret (results_none rfl _ _ _) rfl ?_
        exact ⟨⟨_, rfl⟩, .inr ⟨[0, 1, 2], by decide, HJ9.out⟩⟩
    · have HJK := Lib.hid (show J (ws4.take 3) wr from HJ.out)
      simp only [Nat.reducePow, Int.cast_ofNat_Int]
      clear HJ
      go_upto_region 3 with fail
      obtain ⟨fn, tmps, assign, body, hy, hR⟩ := HY.out (ws4.take 3) 3 _ HJK.out (by decide)
      rw [show encW 3 = #[.int .i64 8] from rfl] at hy
      refine (wpIn_wide (n := n)).1 ?_
      gi_wp2
      refine hR.mono ?_
      rintro e W9 (⟨rfl, hJ9, -⟩ | ⟨rfl, hJ9⟩)
      · have HJ9 := Lib.hid hJ9
        clear hJ9 hR hy HJK
        gi_wp2
        go_wp2_with fail
        go_roundw
        case rel => exact ⟨3 + 1, by omega, rfl, HJ9.out⟩
        case measure => simp [intOf]
      · have HJ9 := Lib.hid hJ9
        clear hJ9 hR hy HJK
        gi_wp2
        go_wp2_with fail
        refine bodyPost_ret (results_none rfl _ _ _) rfl ?_
        exact ⟨⟨_, rfl⟩, .inr ⟨[0, 1, 2, 3], by decide, HJ9.out⟩⟩
    · simp only [Nat.reducePow, Int.cast_ofNat_Int]
      go_wp2_with fail
      go_end0
      exact ⟨⟨_, rfl⟩, .inl ⟨_, rfl, HJ.out⟩⟩
end Go.Proofs.YtjhigmgkmmjlfaaGreat

namespace Go.Proofs.YtjhigmgkmmjlfaaGreat
open Go.RowKit Go.Acc
attribute [local go_sem] Oper.semAt_some
theorem widths_spec (w : World) : Calls Tryz.prog 255 #[] w fun e w' => e = .returned (.func (.func 273) #[] #[]) ∧ w = w' := by
  go_enter Tryz.func255, Tryz.ntmps255
  go_wp2
  go_ret
  exact ⟨rfl, rfl⟩
theorem leastW_first {f : Nat → Bool} {y : Fin 4} {pre : List (Fin 4)} (hp : pre ++ [y] <+: ws4) (h : ∀ z ∈ pre, f (2 ^ z.val) = false) (hy : f (2 ^ y.val) = true) : leastW f = 2 ^ y.val := by
  unfold leastW
  obtain ⟨r, hr⟩ := hp
  rcases pre with _ | ⟨a, _ | ⟨b, _ | ⟨c, _ | ⟨d, pre⟩⟩⟩⟩
  · simp [ws4] at hr
    obtain ⟨rfl, _⟩ := hr
    rw [if_pos (show f 1 = true from hy)]
    rfl
  · simp [ws4] at hr
    obtain ⟨rfl, rfl, _⟩ := hr
    have h0 : f 1 = false := h 0 (by simp)
    rw [if_neg (by rw [h0]; decide), if_pos (show f 2 = true from hy)]
    rfl
  · simp [ws4] at hr
    obtain ⟨rfl, rfl, rfl, _⟩ := hr
    have h0 : f 1 = false := h 0 (by simp)
    have h1 : f 2 = false := h 1 (by simp)
    rw [if_neg (by rw [h0]; decide), if_neg (by rw [h1]; decide), if_pos (show f 4 = true from hy)]
    rfl
  · simp [ws4] at hr
    obtain ⟨rfl, rfl, rfl, rfl, _⟩ := hr
    have h0 : f 1 = false := h 0 (by simp)
    have h1 : f 2 = false := h 1 (by simp)
    have h2 : f 4 = false := h 2 (by simp)
    rw [if_neg (by rw [h0]; decide), if_neg (by rw [h1]; decide), if_neg (by rw [h2]; decide), if_pos (show f 8 = true from hy)]
    rfl
  · exfalso
    have := congrArg List.length hr
    simp [ws4] at this
theorem leastW_no {f : Nat → Bool} (h : ∀ z ∈ ws4, f (2 ^ z.val) = false) : leastW f = 0 := by
  unfold leastW
  have h0 : f 1 = false := h 0 (by decide)
  have h1 : f 2 = false := h 1 (by decide)
  have h2 : f 4 = false := h 2 (by decide)
  have h3 : f 8 = false := h 3 (by decide)
  rw [h0, h1, h2, h3]
  rfl
set_option maxRecDepth 100000 in
set_option maxHeartbeats 2000000 in
theorem least_spec (F : Nat) (caps : Array Value) (f : Nat → Bool) (w : World)
    (hF : ∀ (args : Array Value) (w : World), (callFunc F args).run Tryz.prog w = .ok (.enter F args) w)
    (hf : ∀ y : Fin 4, ∀ W, Below w.heap.size w W → Calls Tryz.prog F (#[.int .i64 ((2 ^ y.val : Nat) : Int)] ++ caps) W fun e W' => e = .returned (.bool (f (2 ^ y.val))) ∧ Below W.heap.size W W') :
    Calls Tryz.prog 214 #[.func (.func F) #[] caps] w fun e w' => e = .returned (.int .i64 (leastW f : Nat)) ∧ Below w.heap.size w w' := by
  have HF := Lib.hid hf
  clear hf
  refine callsIn_wide.1 (callsIn_of_wp_marks (n := 6) Tryz.func214 rfl trivial (wpIn_wide.2 ?_))
  simp only [Tryz.ntmps214, List.size_toArray, List.length_cons, List.length_nil, Nat.reduceAdd, Nat.reduceSub, Array.replicate_succ, Array.replicate_zero, List.push_toArray, List.append_toArray, List.nil_append, List.cons_append]
  have HB := Lib.hid (show Below w.heap.size w ((w.alloc (.cells #[.func (.func F) #[] caps] 43)).alloc (.cells #[.int .i64 0] 3)) from ((Below.refl _ _).alloc (Nat.le_refl _) _).alloc (by simp) _)
  have HX := Lib.hid ((Blk.new w 43 #[.func (.func F) #[] caps]).alloc (.cells #[.int .i64 0] 3))
  have HY := Lib.hid (blk_new2 w (.cells #[.func (.func F) #[] caps] 43) 3 #[.int .i64 0])
  go_wp2_with (go_at_call 255; refine (widths_spec _).mono ?_; rintro e w' ⟨rfl, rfl⟩)
  have HN0 := Lib.hid (show w.heap.size ≤ w.heap.size from Nat.le_refl _)
  generalize (w.alloc (.cells #[.func (.func F) #[] caps] 43)).alloc (.cells #[.int .i64 0] 3) = w1 at HB HX HY ⊢
  obtain ⟨n0, hn0⟩ : ∃ n0, w.heap.size = n0 := ⟨_, rfl⟩
  have HSL := Lib.hid (show n0 ≤ n0 + 1 by omega)
  rw [hn0] at HB HX HY HF ⊢
  have HNN := Lib.hid hn0
  have HN1 := Lib.hid (show n0 ≤ w1.heap.size from by rw [← hn0]; have := HB.out.size; omega)
  generalize n0 + 1 = bY at HSL HY ⊢
  clear HN0 hn0
  refine (wpIn_wide (n := 6)).1 ?_
  refine wpin_a fun a0 ha0 => ?_
  refine wpIn_rangeFunc_ownH rfl (by omega) (gf := 273) (lb := #[]) (by rw [ha0]; rfl) trivial (enters_of Tryz.func273 (by kernel_rfl) rfl)
    (widths1_stops w1 (6 - 1) (by omega)) (fun _ _ => trivial) (fun _ _ _ _ _ _ _ _ => trivial) (Below.refl _ _) (fun _ => rfl)
    (fun pre W => (Blk W n0 43 #[.func (.func F) #[] caps] ∧ Blk W bY 3 #[.int .i64 0] ∧ ∀ z ∈ pre, f (2 ^ z.val) = false) ∧ Below n0 w W)
    (fun c pre W => (c = .ret ∧ ∃ p y, pre = p ++ [y] ∧ (∀ z ∈ p, f (2 ^ z.val) = false) ∧ f (2 ^ y.val) = true ∧ Blk W bY 3 #[.int .i64 ((2 ^ y.val : Nat) : Int)]) ∧ Below n0 w W)
    (OwnFrom.and (fun s A B row hs hg hr => ⟨bkept hg (fun r e => (hr r e).2) hs.1, bkept hg (fun r e => (hr r e).2) hs.2.1, hs.2.2⟩) (ownFrom_below (Nat.le_of_eq HNN.out.symm) HN1.out))
    (fun c => OwnFrom.and (fun s A B row hs hg hr => by obtain ⟨h1, p, y, h2, h3, h4, h5⟩ := hs; exact ⟨h1, p, y, h2, h3, h4, bkept hg (fun r e => (hr r e).2) h5⟩) (ownFrom_below (Nat.le_of_eq HNN.out.symm) HN1.out))
    ⟨⟨HX.out, HY.out, fun i h => by cases h⟩, HB.out⟩
    (fun x a' W => a' = { tmps := (a0.tmps.setIfInBounds 5 (.int .i64 ((2 ^ x.val : Nat) : Int))).setIfInBounds 3 (.int .i64 ((2 ^ x.val : Nat) : Int)), defers := [] })
    (fun x a' _ A B row hs hg hr => hs)
    ?assign ?body ?done ?stop
  case assign =>
    rintro l pre x W K ⟨⟨hX, hY, hall⟩, hB⟩ hK
    have HQ := Lib.hid hK
    have HALL := Lib.hid hall
    clear hK hall HX HY HB
    subst ha0
    unfold encW
    generalize ((2 ^ x.val : Nat) : Int) = z at HQ ⊢
    gi_wp2
    exact HQ.out _ _ (keepsFrom_p (Below.refl _ _)) trivial ⟨⟨hX, hY, HALL.out⟩, hB⟩ rfl
  case body =>
    rintro l pre x a' W hl ⟨rr, hrr⟩ ⟨⟨hX, hY, hall⟩, hB⟩ rfl hlt
    have HXX := Lib.hid hX
    have HYY := Lib.hid hY
    have HALL := Lib.hid hall
    have HBB := Lib.hid hB
    have x0 : W.cell? ⟨n0, 0, none⟩ = some (.func (.func F) #[] caps) := hX.cell 0
    have HC := Lib.hid (HF.out x W hB)
    clear hX hY hall hB HX HY HB hlt
    subst ha0
    obtain ⟨z, hz⟩ : ∃ z : Nat, 2 ^ x.val = z := ⟨_, rfl⟩
    have HZ := Lib.hid hz
    rw [hz] at HC ⊢
    obtain ⟨t, ht⟩ : ∃ t, f z = t := ⟨_, rfl⟩
    rw [ht] at HC
    have HT := Lib.hid ht
    clear hz ht
    gi_wp2
    refine ⟨trivial, (CallsIn.inRound l (callsIn_wide.2 HC.out)).mono ?_⟩
    rintro e W3 ⟨rfl, hb⟩
    have HB3 := Lib.hid hb
    have s0 : W3.cell? ⟨bY, 0, none⟩ = some (.int .i64 0) := (HYY.out.pure HB3.out).cell 0
    have s1 := (HYY.out.pure HB3.out).frozen 0
    have HB4 := Lib.hid (pure_below HBB.out HB3.out (Nat.le_of_eq HNN.out.symm))
    clear hb x0
    cases t with
    | false =>
      gi_wp2
      refine ⟨keepsFrom_p HB3.out, trivial, ⟨HXX.out.pure HB3.out, HYY.out.pure HB3.out, ?_⟩, HB4.out⟩
      intro j hj
      rcases List.mem_append.1 hj with hj | hj
      · exact HALL.out j hj
      · rw [List.mem_singleton.1 hj, HZ.out]
        exact HT.out
    | true =>
      gi_wp2
      exact ⟨(keepsFrom_p HB3.out).trans ((KeepsOthers.setCell _ _ _).from _), ⟨rfl, pre, x, rfl, HALL.out, by rw [HZ.out]; exact HT.out, by rw [HZ.out]; exact (HYY.out.pure HB3.out).set_ 0 _⟩, HB4.out.setCell (p := ⟨bY, 0, none⟩) HSL.out _⟩
  case done =>
    rintro D ys W hD rfl ⟨⟨hX, hY, hall⟩, hB⟩ hK
    subst ha0
    have hz := leastW_no hall
    have HZ := Lib.hid hz
    have s0 : W.cell? ⟨bY, 0, none⟩ = some (.int .i64 0) := hY.cell 0
    have s1 := hY.frozen 0
    have s2 := hY.set_ 0 (.int .i64 0)
    have hK' := (KeepsOthers.setCell W ⟨bY, 0, none⟩ (.int .i64 0)).same D _ hK rfl
    clear hz hall hX hY HX HY HB
    go_wp2_with fail
    refine ⟨by simp, .inl ⟨_, _, rfl, run_takeDeferred hK', ?_⟩⟩
    have hc5 := bkept (grownBy_putObj' _ D (.deferred none)) (fun r e => by cases e; exact ⟨_, hK', rfl⟩) s2
    have hc6 : _ = some (Value.int .i64 0) := hc5.cell 0
    refine ⟨.int .i64 0, ?_, by rw [HZ.out]; rfl, ?_⟩
    · simp [results, Tryz.f214, go_sem, hc6]
    · rw [HNN.out]
      exact (hB.setCell (p := ⟨bY, 0, none⟩) HSL.out _).trans (belowK_b (w := w) (Nat.le_of_eq HNN.out.symm) _ D _ _ (by have := HN1.out; have := HNN.out; omega) hK' rfl rfl)
  case stop =>
    rintro D c pre W hD hpre ⟨⟨rfl, p, y, rfl, hall, hy, hY⟩, hB⟩ hK
    have HZ := Lib.hid (leastW_first hpre hall hy)
    subst ha0
    clear hall hy HX HY HB hpre
    gi_wp2
    refine ⟨by simp, .inl ⟨_, _, rfl, run_takeDeferred hK, ?_⟩⟩
    have hc5 := bkept (grownBy_putObj' W D (.deferred none)) (fun r e => by cases e; exact ⟨_, hK, rfl⟩) hY
    have hc6 : _ = some (Value.int .i64 ((2 ^ y.val : Nat) : Int)) := hc5.cell 0
    refine ⟨.int .i64 ((2 ^ y.val : Nat) : Int), ?_, by rw [HZ.out], ?_⟩
    · simp [results, Tryz.f214, go_sem, hc6]
    · rw [HNN.out]
      exact hB.trans (belowK_b (w := w) (Nat.le_of_eq HNN.out.symm) _ D _ _ (by have := HN1.out; have := HNN.out; omega) hK rfl rfl)
end Go.Proofs.YtjhigmgkmmjlfaaGreat

namespace Go.Proofs.YtjhigmgkmmjlfaaGreat
open Go.RowKit Go.Acc
def tCells : Array Value := (tRows.flatMap fun r => [Value.int .i64 r.1, .int .i64 r.2.1, .int .i64 r.2.2]).toArray
def tZero : Array Value := Array.replicate 111 (Value.int .i64 0)
theorem tinfo : (Tryz.prog.info? 153).map (fun i => (i.zero, i.size)) = some (some (Value.agg tZero), 111) := by kernel_rfl
theorem upon_skip_of {P : Program} {o : Oper} {a : Act} {next : Act → World → Prop} {Q : Exit → Act → World → Prop} {r : Result Unit} {w' : World} (h : r = .ok () w') (hk : next (a.put o.dst undef) w') :
    o.upon P a next Q (r.andThen fun _ w' => .ok .skip w') := by subst h; exact hk
set_option maxRecDepth 100000 in
set_option maxHeartbeats 1000000 in
theorem tkinds_spec (w : World) : Calls Tryz.prog 106 #[] w fun e w' => e = .returned (.agg tCells) ∧ Below w.heap.size w w' := by
  have hz := (zero_of_info tinfo).1
  have hsz : tZero.size = 111 := rfl
  go_enter Tryz.func106, Tryz.ntmps106
  go_wp2
  refine upon_skip_of (w' := w.alloc (.cells tCells 153)) ?_ ?_
  · refine Eq.trans ?_ (run_storeCells_new (P := Tryz.prog) w 153 tZero tCells (by kernel_rfl) (by kernel_rfl) (by kernel_rfl))
    kernel_rfl
  · have hld := run_loadVar_new (P := Tryz.prog) w 153 tCells 37 101 Tryz.underlying153 (by kernel_rfl)
    clear hz hsz
    go_wp2
    refine bodyPost_ret (v := .agg tCells) ?_ rfl ⟨rfl, (Below.refl _ _).alloc (Nat.le_refl _) _⟩
    refine results_cell_row (fn := Tryz.f106) rfl _ _ w.heap.size 153 tCells (0, 0) _ ?_ (heap_alloc_last w _) Tryz.underlying153 rfl (by kernel_rfl)
    rfl
end Go.Proofs.YtjhigmgkmmjlfaaGreat

namespace Go.Proofs.YtjhigmgkmmjlfaaGreat
open Go.RowKit Go.Acc
def rowV (r : Int × Int × Int) : Value := .agg #[.int .i64 r.1, .int .i64 r.2.1, .int .i64 r.2.2]
theorem tindex {t : Int} (ht : isT t = true) : ∀ w, (Instr.index 153 (.agg tCells) (.int .i64 t)).run Tryz.prog w = .ok (rowV (tRow t)) w := by
  have h : ∀ n : Fin 37, ∀ w, (Instr.index 153 (.agg tCells) (.int .i64 ((n.val : Nat) : Int))).run Tryz.prog w = .ok (rowV (tRow ((n.val : Nat) : Int))) w := by
    intro n
    rcases n with ⟨n, hn⟩
    have : n = 0 ∨ n = 1 ∨ n = 2 ∨ n = 3 ∨ n = 4 ∨ n = 5 ∨ n = 6 ∨ n = 7 ∨ n = 8 ∨ n = 9 ∨ n = 10 ∨ n = 11 ∨ n = 12 ∨ n = 13 ∨ n = 14 ∨ n = 15 ∨ n = 16 ∨ n = 17 ∨ n = 18 ∨ n = 19 ∨ n = 20 ∨ n = 21 ∨ n = 22 ∨ n = 23 ∨ n = 24 ∨ n = 25 ∨ n = 26 ∨ n = 27 ∨ n = 28 ∨ n = 29 ∨ n = 30 ∨ n = 31 ∨ n = 32 ∨ n = 33 ∨ n = 34 ∨ n = 35 ∨ n = 36 := by omega
    rcases this with rfl | rfl | rfl | rfl | rfl | rfl | rfl | rfl | rfl | rfl | rfl | rfl | rfl | rfl | rfl | rfl | rfl | rfl | rfl | rfl | rfl | rfl | rfl | rfl | rfl | rfl | rfl | rfl | rfl | rfl | rfl | rfl | rfl | rfl | rfl | rfl | rfl
    all_goals
      intro w
      kernel_rfl
  exact t37_all (p := fun t => ∀ w, (Instr.index 153 (.agg tCells) (.int .i64 t)).run Tryz.prog w = .ok (rowV (tRow t)) w) h ht
set_option maxHeartbeats 400000 in
theorem tof_spec (t : Int) (w : World) : Calls Tryz.prog 63 #[.int .i64 t] w fun e w' => e = .returned (rowV (tRow t)) ∧ Below w.heap.size w w' := by
  cases ht : isT t with
  | true =>
    have hb := isT_iff.1 ht
    have hb0 := hb.1
    have hb1 := hb.2
    have hidx := tindex ht
    have HR := Lib.hid (show True from trivial)
    obtain ⟨r, hr⟩ : ∃ r, tRow t = r := ⟨_, rfl⟩
    obtain ⟨r0, r1, r2⟩ := r
    rw [hr] at hidx ⊢
    unfold rowV at hidx ⊢
    clear hb hr ht
    go_enter Tryz.func63, Tryz.ntmps63
    go_wp2_with fail
    go_at_call 106
    refine (tkinds_spec _).mono ?_
    rintro e w1 ⟨rfl, hb⟩
    have HK := Lib.hid ((Blk.new w 101 #[.int .i64 0, .int .i64 0, .int .i64 0]).pure hb)
    have HB := Lib.hid (pure_trans ((Below.refl w.heap.size w).alloc (Nat.le_refl _) _) hb)
    have c0 := (HK.out.cell 0).trans (show _ = some (Value.int .i64 0) from rfl)
    have c1 := (HK.out.cell 1).trans (show _ = some (Value.int .i64 0) from rfl)
    have c2 := (HK.out.cell 2).trans (show _ = some (Value.int .i64 0) from rfl)
    have f0 := HK.out.frozen 0
    have f1 := HK.out.frozen 1
    have f2 := HK.out.frozen 2
    clear hb
    go_wp2
    refine bodyPost_ret (v := .agg #[.int .i64 r0, .int .i64 r1, .int .i64 r2]) (by simp [results, Tryz.results63, go_sem, c0, c1, c2]) rfl ⟨rfl, ?_⟩
    exact ((HB.out.setCell (Nat.le_refl _) _).setCell (Nat.le_refl _) _).setCell (Nat.le_refl _) _
  | false =>
    rw [tRow_no ht]
    have hb : t < 0 ∨ 37 ≤ t := by
      have : ¬ (0 ≤ t ∧ t < 37) := by rw [← isT_iff, ht]; simp
      omega
    clear ht
    rcases hb with hb | hb
    · go_enter Tryz.func63, Tryz.ntmps63
      go_wp2
      refine bodyPost_ret (v := rowV (0, 0, 0)) (by simp [results, Tryz.results63, go_sem, rowV]) rfl ⟨rfl, ?_⟩
      exact (Below.refl _ _).alloc (Nat.le_refl _) _
    · have h0 : ¬ t < 0 := by omega
      go_enter Tryz.func63, Tryz.ntmps63
      go_wp2
      refine bodyPost_ret (v := rowV (0, 0, 0)) (by simp [results, Tryz.results63, go_sem, rowV]) rfl ⟨rfl, ?_⟩
      exact (Below.refl _ _).alloc (Nat.le_refl _) _

theorem tfield0 (a b c : Int) (w : World) : (Instr.field 101 (.agg #[.int .i64 a, .int .i64 b, .int .i64 c]) 0).run Tryz.prog w = .ok (.int .i64 a) w := by kernel_rfl
theorem tfield1 (a b c : Int) (w : World) : (Instr.field 101 (.agg #[.int .i64 a, .int .i64 b, .int .i64 c]) 1).run Tryz.prog w = .ok (.int .i64 b) w := by kernel_rfl
theorem tfield2 (a b c : Int) (w : World) : (Instr.field 101 (.agg #[.int .i64 a, .int .i64 b, .int .i64 c]) 2).run Tryz.prog w = .ok (.int .i64 c) w := by kernel_rfl
theorem tof_spec2 (t r0 r1 r2 : Int) (w : World) (h : tRow t = (r0, r1, r2)) : Calls Tryz.prog 63 #[.int .i64 t] w fun e w' => e = .returned (.agg #[.int .i64 r0, .int .i64 r1, .int .i64 r2]) ∧ Below w.heap.size w w' := by
  have := tof_spec t w
  rw [h] at this
  exact this
set_option maxRecDepth 100000 in
set_option maxHeartbeats 400000 in
theorem legal_spec (t : Int) (w : World) : Calls Tryz.prog 59 #[.int .i64 t] w fun e w' => e = .returned (.bool (legalT t)) ∧ Below w.heap.size w w' := by
  unfold legalT
  obtain ⟨r, hr⟩ : ∃ r, tRow t = r := ⟨_, rfl⟩
  obtain ⟨r0, r1, r2⟩ := r
  have HR := Lib.hid hr
  rw [hr]
  clear hr
  have hf0 := tfield0
  have hf1 := tfield1
  have hf2 := tfield2
  go_enter Tryz.func59, Tryz.ntmps59
  go_wp2_with fail
  go_at_call 63
  refine (tof_spec2 t r0 r1 r2 _ HR.out).mono ?_
  rintro e w1 ⟨rfl, hb⟩
  have HB := Lib.hid hb
  clear hb
  go_wp2
  go_ret
  exact ⟨rfl, HB.out⟩
set_option maxRecDepth 100000 in
set_option maxHeartbeats 400000 in
theorem inline_spec (t : Int) (w : World) : Calls Tryz.prog 19 #[.int .i64 t] w fun e w' => e = .returned (.bool (inlineT t)) ∧ Below w.heap.size w w' := by
  unfold inlineT
  obtain ⟨r, hr⟩ : ∃ r, tRow t = r := ⟨_, rfl⟩
  obtain ⟨r0, r1, r2⟩ := r
  have HR := Lib.hid hr
  rw [hr]
  clear hr
  have hf0 := tfield0
  have hf1 := tfield1
  have hf2 := tfield2
  go_enter Tryz.func19, Tryz.ntmps19
  go_wp2_with fail
  go_at_call 63
  refine (tof_spec2 t r0 r1 r2 _ HR.out).mono ?_
  rintro e w1 ⟨rfl, hb⟩
  have HB := Lib.hid hb
  clear hb
  go_wp2
  go_ret
  exact ⟨rfl, HB.out⟩
set_option maxHeartbeats 400000 in
theorem elem_spec (t : Int) (w : World) : Calls Tryz.prog 114 #[.int .i64 t] w fun e w' => e = .returned (.tuple #[.int .i64 (elemT t), .int .i64 (manyT t), .bool (vecT t)]) ∧ Below w.heap.size w w' := by
  unfold elemT manyT vecT
  obtain ⟨r, hr⟩ : ∃ r, tRow t = r := ⟨_, rfl⟩
  obtain ⟨r0, r1, r2⟩ := r
  have HR := Lib.hid hr
  rw [hr]
  clear hr
  have hf0 := tfield0
  have hf1 := tfield1
  have hf2 := tfield2
  go_enter Tryz.func114, Tryz.ntmps114
  go_wp2_with fail
  go_at_call 63
  refine (tof_spec2 t r0 r1 r2 _ HR.out).mono ?_
  rintro e w1 ⟨rfl, hb⟩
  have HB := Lib.hid hb
  clear hb
  go_wp2_with fail
  go_quiet (fail)
  go_wp2
  go_ret3
  exact ⟨rfl, below_drewN (HB.out.alloc HB.out.size _) _⟩
theorem pow_wrap (n : Nat) : wrap64 ((2 : Int) ^ (n % 4)) = 2 ^ (n % 4) := by
  have : n % 4 = 0 ∨ n % 4 = 1 ∨ n % 4 = 2 ∨ n % 4 = 3 := by omega
  rcases this with e | e | e | e <;> rw [e] <;> unfold wrap64 <;> simp only [Int.reducePow] <;> omega
set_option maxHeartbeats 400000 in
theorem unpack_spec (c : UInt8) (w : World) : Calls Tryz.prog 57 #[.int .u8 (c.toNat : Int)] w fun e w' => e = .returned (.tuple #[.int .i64 (unT c), .int .i64 (unW c), .int .i64 (unE c)]) ∧ Below w.heap.size w w' := by
  have hc := c.toNat_lt
  have hq : IntKind.u8.wrap ((c.toNat : Int) / 4) = (c.toNat : Int) / 4 := by rw [IntKind.wrap_u8]; omega
  cases hl : legalT ((c.toNat : Int) / 4) with
  | true =>
    have HL := Lib.hid hl
    have h1 : unT c = (c.toNat : Int) / 4 := by unfold unT; rw [if_pos hl]
    have h2 : unW c = 2 ^ (c.toNat % 4) := by unfold unW; rw [if_pos hl]
    have h3 : unE c = 0 := by unfold unE; rw [if_pos hl]
    rw [h1, h2, h3]
    clear hl h1 h2 h3
    go_enter Tryz.func57, Tryz.ntmps57
    go_wp2_with fail
    go_at_call 59
    refine (legal_spec _ _).mono ?_
    rw [HL.out]
    rintro e w1 ⟨rfl, hb⟩
    have HB := Lib.hid hb
    clear hb
    go_wp2
    rw [pow_wrap]
    go_ret3
    exact ⟨rfl, HB.out⟩
  | false =>
    have HL := Lib.hid hl
    have h1 : unT c = 0 := by unfold unT; rw [hl]; rfl
    have h2 : unW c = 0 := by unfold unW; rw [hl]; rfl
    have h3 : unE c = 20 := by unfold unE; rw [hl]; rfl
    rw [h1, h2, h3]
    clear hl h1 h2 h3
    go_enter Tryz.func57, Tryz.ntmps57
    go_wp2_with fail
    go_at_call 59
    refine (legal_spec _ _).mono ?_
    rw [HL.out]
    rintro e w1 ⟨rfl, hb⟩
    have HB := Lib.hid hb
    clear hb
    go_wp2
    go_ret3
    exact ⟨rfl, HB.out⟩

theorem isT_no {t : Int} (h : isT t = false) : t < 0 ∨ 37 ≤ t := by
  have : ¬ (0 ≤ t ∧ t < 37) := by rw [← isT_iff, h]; simp
  omega
end Go.Proofs.YtjhigmgkmmjlfaaGreat
