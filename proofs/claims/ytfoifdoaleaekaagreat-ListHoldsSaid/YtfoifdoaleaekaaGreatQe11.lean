/-
  Package fit: the widths, one after another, and the first at which a function says yes.
  Package fit: the first width at which a function says yes.
  Package fit: whether a value fits, One.
  Package ref and its reference: Inside, isWidth, Same.
-/
import Derived.Test.YtfoifdoaleaekaaGreatQe10
import Derived.Deep.DeepCutAuto
import Derived.RangeFuncNested
import Derived.RangeFuncBound
import Derived.RangeFuncCalls
import Derived.RangeFuncLeaves
import Derived.Shelf.Abstract
import Derived.Shelf.RegionOpen
import Derived.OwnWalkIn
import Derived.TacticsInMore
import Derived.LoopNIn
import Derived.LoopIn
namespace Go.Proofs.YtfoifdoaleaekaaGreat
open Go.RowKit Go.Acc
attribute [local go_sem] Oper.semAt_some
theorem fwithin_spec (n : Nat) (w : World) (hn : n ≤ 1073741824) : Calls Tryz.prog 190 #[.int .i64 (n : Int)] w fun e w' => e = .returned (.bool true) ∧ w = w' := by
  have h0 : (0 : Int) ≤ (n : Int) := by omega
  have h1 : (n : Int) ≤ 1073741824 := by omega
  go_enter Tryz.func190, Tryz.ntmps190
  go_wp2
  go_ret
  exact ⟨rfl, rfl⟩
theorem bkept {W W' : World} {row : Option Nat} (hg : W.grownBy W' row) (hr : ∀ r, row = some r → ∃ o : Obj, W.heap[r]? = some o ∧ o.isCells = false) {g : Nat} {t : TypeId} {cs : Array Value} (h : Blk W g t cs) : Blk W' g t cs := (grownBy_keeps_cells hg hr h rfl).trans h
theorem keepsFrom_p {B : Nat} {W W' : World} (hb : Below W.heap.size W W') : KeepsFrom B W W' := ⟨hb.size, fun k _ _ hk _ => (hb.block k (Array.getElem?_eq_some_iff.1 hk).1).trans hk⟩
theorem wpin_a {F : Fence} {n : Nat} {P : Program} {c : Code} {Q : Exit → Act → World → Prop} {a : Act} {w : World} (h : ∀ a0, a0 = a → c.wpIn F n P Q a0 w) : c.wpIn F n P Q a w := h a rfl
def ws4 : List (Fin 4) := [0, 1, 2, 3]
def encW (i : Fin 4) : Array Value := #[.int .i64 ((2 ^ i.val : Nat) : Int)]
set_option maxRecDepth 100000 in
set_option maxHeartbeats 2000000 in
theorem widths1_stops (w : World) (n : Nat) (hn : 1 ≤ n) :
    SeqStopsK Fence.wide n Tryz.prog 255 #[] encW (fun _ _ => True) (fun xs => xs = ws4) (fun pre => pre <+: ws4) 4 w := by
  intro l J Jx W hW hJ hJx hY h0
  have HJ := Lib.hid h0
  have HY := Lib.hid hY
  clear hW h0 hJ hY hJx
  refine callsIn_wide.2 ?_
  go_enter Tryz.func255, Tryz.ntmps255
  go_wp2_with fail
  go_loopw [2] (fun u wr => ∃ k : Nat, k ≤ 4 ∧ u = .int .i64 ((2 ^ k : Nat) : Int) ∧ J (ws4.take k) wr) (fun u _ => 16 - (intOf u).toNat)
  case atStart => exact ⟨0, by omega, rfl, HJ.out⟩
  case round =>
    clear HJ
    obtain ⟨k, hk, rfl, hJ1⟩ := hrel
    have HJ := Lib.hid hJ1
    clear hJ1
    obtain rfl | rfl | rfl | rfl | rfl : k = 0 ∨ k = 1 ∨ k = 2 ∨ k = 3 ∨ k = 4 := by omega
    · have HJK := Lib.hid (show J (ws4.take 0) wr from HJ.out)
      simp only [Nat.reducePow, Int.cast_ofNat_Int]
      clear HJ
      go_upto_region 3 with fail
      obtain ⟨fn, tmps, assign, body, hy, hR⟩ := HY.out (ws4.take 0) 0 _ HJK.out (by decide)
      rw [show encW 0 = #[.int .i64 1] from rfl] at hy
      refine (wpIn_wide (n := n)).1 ?_
      gi_wp2
      refine hR.mono ?_
      rintro e W9 (⟨rfl, hJ9, -⟩ | ⟨rfl, hJ9⟩)
      · have HJ9 := Lib.hid hJ9
        clear hJ9 hR hy HJK
        gi_wp2
        go_wp2_with fail
        go_roundw
        case rel => exact ⟨0 + 1, by omega, rfl, HJ9.out⟩
        case measure => simp [intOf]
      · have HJ9 := Lib.hid hJ9
        clear hJ9 hR hy HJK
        gi_wp2
        go_wp2_with fail
        refine bodyPost_ret (results_none rfl _ _ _) rfl ?_
        exact ⟨⟨_, rfl⟩, .inr ⟨[0], by decide, HJ9.out⟩⟩
    · have HJK := Lib.hid (show J (ws4.take 1) wr from HJ.out)
      simp only [Nat.reducePow, Int.cast_ofNat_Int]
      clear HJ
      go_upto_region 3 with fail
      obtain ⟨fn, tmps, assign, body, hy, hR⟩ := HY.out (ws4.take 1) 1 _ HJK.out (by decide)
      rw [show encW 1 = #[.int .i64 2] from rfl] at hy
      refine (wpIn_wide (n := n)).1 ?_
      gi_wp2
      refine hR.mono ?_
      rintro e W9 (⟨rfl, hJ9, -⟩ | ⟨rfl, hJ9⟩)
      · have HJ9 := Lib.hid hJ9
        clear hJ9 hR hy HJK
        gi_wp2
        go_wp2_with fail
        go_roundw
        case rel => exact ⟨1 + 1, by omega, rfl, HJ9.out⟩
        case measure => simp [intOf]
      · have HJ9 := Lib.hid hJ9
        clear hJ9 hR hy HJK
        gi_wp2
        go_wp2_with fail
        refine bodyPost_ret (results_none rfl _ _ _) rfl ?_
        exact ⟨⟨_, rfl⟩, .inr ⟨[0, 1], by decide, HJ9.out⟩⟩
    · have HJK := Lib.hid (show J (ws4.take 2) wr from HJ.out)
      simp only [Nat.reducePow, Int.cast_ofNat_Int]
      clear HJ
      go_upto_region 3 with fail
      obtain ⟨fn, tmps, assign, body, hy, hR⟩ := HY.out (ws4.take 2) 2 _ HJK.out (by decide)
      rw [show encW 2 = #[.int .i64 4] from rfl] at hy
      refine (wpIn_wide (n := n)).1 ?_
      gi_wp2
      refine hR.mono ?_
      rintro e W9 (⟨rfl, hJ9, -⟩ | ⟨rfl, hJ9⟩)
      · have HJ9 := Lib.hid hJ9
        clear hJ9 hR hy HJK
        gi_wp2
        go_wp2_with fail
        go_roundw
        case rel => exact ⟨2 + 1, by omega, rfl, HJ9.out⟩
        case measure => simp [intOf]
      · have HJ9 := Lib.hid hJ9
        clear hJ9 hR hy HJK
        gi_wp2
        go_wp2_with fail
        refine bodyPost_ret (results_none rfl _ _ _) rfl ?_
        exact ⟨⟨_, rfl⟩, .inr ⟨[0, 1, 2], by decide, HJ9.out⟩⟩
    · have HJK := Lib.hid (show J (ws4.take 3) wr from HJ.out)
      simp only [Nat.reducePow, Int.cast_ofNat_Int]
      clear HJ
      go_upto_region 3 with fail
      obtain ⟨fn, tmps, assign, body, hy, hR⟩ := HY.out (ws4.take 3) 3 _ HJK.out (by decide)
      rw [show encW 3 = #[.int .i64 8] from rfl] at hy
      refine (wpIn_wide (n := n)).1 ?_
      gi_wp2
      refine hR.mono ?_
      rintro e W9 (⟨rfl, hJ9, -⟩ | ⟨rfl, hJ9⟩)
      · have HJ9 := Lib.hid hJ9
        clear hJ9 hR hy HJK
        gi_wp2
        go_wp2_with fail
        go_roundw
        case rel => exact ⟨3 + 1, by omega, rfl, HJ9.out⟩
        case measure => simp [intOf]
      · have HJ9 := Lib.hid hJ9
        clear hJ9 hR hy HJK
        gi_wp2
        go_wp2_with fail
        refine bodyPost_ret (results_none rfl _ _ _) rfl ?_
        exact ⟨⟨_, rfl⟩, .inr ⟨[0, 1, 2, 3], by decide, HJ9.out⟩⟩
    · simp only [Nat.reducePow, Int.cast_ofNat_Int]
      go_wp2_with fail
      go_end0
      exact ⟨⟨_, rfl⟩, .inl ⟨_, rfl, HJ.out⟩⟩
end Go.Proofs.YtfoifdoaleaekaaGreat

namespace Go.Proofs.YtfoifdoaleaekaaGreat
open Go.RowKit Go.Acc
attribute [local go_sem] Oper.semAt_some
theorem widths_spec (w : World) : Calls Tryz.prog 233 #[] w fun e w' => e = .returned (.func (.func 255) #[] #[]) ∧ w = w' := by
  go_enter Tryz.func233, Tryz.ntmps233
  go_wp2
  go_ret
  exact ⟨rfl, rfl⟩
theorem leastW_first {f : Nat → Bool} {y : Fin 4} {pre : List (Fin 4)} (hp : pre ++ [y] <+: ws4) (h : ∀ z ∈ pre, f (2 ^ z.val) = false) (hy : f (2 ^ y.val) = true) : leastW f = 2 ^ y.val := by
  unfold leastW
  obtain ⟨r, hr⟩ := hp
  rcases pre with _ | ⟨a, _ | ⟨b, _ | ⟨c, _ | ⟨d, pre⟩⟩⟩⟩
  · simp [ws4] at hr
    obtain ⟨rfl, _⟩ := hr
    rw [if_pos (show f 1 = true from hy)]
    rfl
  · simp [ws4] at hr
    obtain ⟨rfl, rfl, _⟩ := hr
    have h0 : f 1 = false := h 0 (by simp)
    rw [if_neg (by rw [h0]; decide), if_pos (show f 2 = true from hy)]
    rfl
  · simp [ws4] at hr
    obtain ⟨rfl, rfl, rfl, _⟩ := hr
    have h0 : f 1 = false := h 0 (by simp)
    have h1 : f 2 = false := h 1 (by simp)
    rw [if_neg (by rw [h0]; decide), if_neg (by rw [h1]; decide), if_pos (show f 4 = true from hy)]
    rfl
  · simp [ws4] at hr
    obtain ⟨rfl, rfl, rfl, rfl, _⟩ := hr
    have h0 : f 1 = false := h 0 (by simp)
    have h1 : f 2 = false := h 1 (by simp)
    have h2 : f 4 = false := h 2 (by simp)
    rw [if_neg (by rw [h0]; decide), if_neg (by rw [h1]; decide), if_neg (by rw [h2]; decide), if_pos (show f 8 = true from hy)]
    rfl
  · exfalso
    have := congrArg List.length hr
    simp [ws4] at this
theorem leastW_no {f : Nat → Bool} (h : ∀ z ∈ ws4, f (2 ^ z.val) = false) : leastW f = 0 := by
  unfold leastW
  have h0 : f 1 = false := h 0 (by decide)
  have h1 : f 2 = false := h 1 (by decide)
  have h2 : f 4 = false := h 2 (by decide)
  have h3 : f 8 = false := h 3 (by decide)
  rw [h0, h1, h2, h3]
  rfl
set_option maxRecDepth 100000 in
set_option maxHeartbeats 2000000 in
theorem least_spec (F : Nat) (caps : Array Value) (f : Nat → Bool) (w : World)
    (hF : ∀ (args : Array Value) (w : World), (callFunc F args).run Tryz.prog w = .ok (.enter F args) w)
    (hf : ∀ y : Fin 4, ∀ W, Below w.heap.size w W → Calls Tryz.prog F (#[.int .i64 ((2 ^ y.val : Nat) : Int)] ++ caps) W fun e W' => e = .returned (.bool (f (2 ^ y.val))) ∧ Below W.heap.size W W') :
    Calls Tryz.prog 191 #[.func (.func F) #[] caps] w fun e w' => e = .returned (.int .i64 (leastW f : Nat)) ∧ Below w.heap.size w w' := by
  have HF := Lib.hid hf
  clear hf
  refine callsIn_wide.1 (callsIn_of_wp_marks (n := 6) Tryz.func191 rfl trivial (wpIn_wide.2 ?_))
  simp only [Tryz.ntmps191, List.size_toArray, List.length_cons, List.length_nil, Nat.reduceAdd, Nat.reduceSub, Array.replicate_succ, Array.replicate_zero, List.push_toArray, List.append_toArray, List.nil_append, List.cons_append]
  have HB := Lib.hid (show Below w.heap.size w ((w.alloc (.cells #[.func (.func F) #[] caps] 43)).alloc (.cells #[.int .i64 0] 3)) from ((Below.refl _ _).alloc (Nat.le_refl _) _).alloc (by simp) _)
  have HX := Lib.hid ((Blk.new w 43 #[.func (.func F) #[] caps]).alloc (.cells #[.int .i64 0] 3))
  have HY := Lib.hid (blk_new2 w (.cells #[.func (.func F) #[] caps] 43) 3 #[.int .i64 0])
  go_wp2_with (go_at_call 233; refine (widths_spec _).mono ?_; rintro e w' ⟨rfl, rfl⟩)
  have HN0 := Lib.hid (show w.heap.size ≤ w.heap.size from Nat.le_refl _)
  generalize (w.alloc (.cells #[.func (.func F) #[] caps] 43)).alloc (.cells #[.int .i64 0] 3) = w1 at HB HX HY ⊢
  obtain ⟨n0, hn0⟩ : ∃ n0, w.heap.size = n0 := ⟨_, rfl⟩
  have HSL := Lib.hid (show n0 ≤ n0 + 1 by omega)
  rw [hn0] at HB HX HY HF ⊢
  have HNN := Lib.hid hn0
  have HN1 := Lib.hid (show n0 ≤ w1.heap.size from by rw [← hn0]; have := HB.out.size; omega)
  generalize n0 + 1 = bY at HSL HY ⊢
  clear HN0 hn0
  refine (wpIn_wide (n := 6)).1 ?_
  refine wpin_a fun a0 ha0 => ?_
  refine wpIn_rangeFunc_ownH rfl (by omega) (gf := 255) (lb := #[]) (by rw [ha0]; rfl) trivial (enters_of Tryz.func255 (by kernel_rfl) rfl)
    (widths1_stops w1 (6 - 1) (by omega)) (fun _ _ => trivial) (fun _ _ _ _ _ _ _ _ => trivial) (Below.refl _ _) (fun _ => rfl)
    (fun pre W => (Blk W n0 43 #[.func (.func F) #[] caps] ∧ Blk W bY 3 #[.int .i64 0] ∧ ∀ z ∈ pre, f (2 ^ z.val) = false) ∧ Below n0 w W)
    (fun c pre W => (c = .ret ∧ ∃ p y, pre = p ++ [y] ∧ (∀ z ∈ p, f (2 ^ z.val) = false) ∧ f (2 ^ y.val) = true ∧ Blk W bY 3 #[.int .i64 ((2 ^ y.val : Nat) : Int)]) ∧ Below n0 w W)
    (OwnFrom.and (fun s A B row hs hg hr => ⟨bkept hg (fun r e => (hr r e).2) hs.1, bkept hg (fun r e => (hr r e).2) hs.2.1, hs.2.2⟩) (ownFrom_below (Nat.le_of_eq HNN.out.symm) HN1.out))
    (fun c => OwnFrom.and (fun s A B row hs hg hr => by obtain ⟨h1, p, y, h2, h3, h4, h5⟩ := hs; exact ⟨h1, p, y, h2, h3, h4, bkept hg (fun r e => (hr r e).2) h5⟩) (ownFrom_below (Nat.le_of_eq HNN.out.symm) HN1.out))
    ⟨⟨HX.out, HY.out, fun i h => by cases h⟩, HB.out⟩
    (fun x a' W => a' = { tmps := (a0.tmps.setIfInBounds 5 (.int .i64 ((2 ^ x.val : Nat) : Int))).setIfInBounds 3 (.int .i64 ((2 ^ x.val : Nat) : Int)), defers := [] })
    (fun x a' _ A B row hs hg hr => hs)
    ?assign ?body ?done ?stop
  case assign =>
    rintro l pre x W K ⟨⟨hX, hY, hall⟩, hB⟩ hK
    have HQ := Lib.hid hK
    have HALL := Lib.hid hall
    clear hK hall HX HY HB
    subst ha0
    unfold encW
    generalize ((2 ^ x.val : Nat) : Int) = z at HQ ⊢
    gi_wp2
    exact HQ.out _ _ (keepsFrom_p (Below.refl _ _)) trivial ⟨⟨hX, hY, HALL.out⟩, hB⟩ rfl
  case body =>
    rintro l pre x a' W hl ⟨rr, hrr⟩ ⟨⟨hX, hY, hall⟩, hB⟩ rfl hlt
    have HXX := Lib.hid hX
    have HYY := Lib.hid hY
    have HALL := Lib.hid hall
    have HBB := Lib.hid hB
    have x0 : W.cell? ⟨n0, 0, none⟩ = some (.func (.func F) #[] caps) := hX.cell 0
    have HC := Lib.hid (HF.out x W hB)
    clear hX hY hall hB HX HY HB hlt
    subst ha0
    obtain ⟨z, hz⟩ : ∃ z : Nat, 2 ^ x.val = z := ⟨_, rfl⟩
    have HZ := Lib.hid hz
    rw [hz] at HC ⊢
    obtain ⟨t, ht⟩ : ∃ t, f z = t := ⟨_, rfl⟩
    rw [ht] at HC
    have HT := Lib.hid ht
    clear hz ht
    gi_wp2
    refine ⟨trivial, (CallsIn.inRound l (callsIn_wide.2 HC.out)).mono ?_⟩
    rintro e W3 ⟨rfl, hb⟩
    have HB3 := Lib.hid hb
    have s0 : W3.cell? ⟨bY, 0, none⟩ = some (.int .i64 0) := (HYY.out.pure HB3.out).cell 0
    have s1 := (HYY.out.pure HB3.out).frozen 0
    have HB4 := Lib.hid (pure_below HBB.out HB3.out (Nat.le_of_eq HNN.out.symm))
    clear hb x0
    cases t with
    | false =>
      gi_wp2
      refine ⟨keepsFrom_p HB3.out, trivial, ⟨HXX.out.pure HB3.out, HYY.out.pure HB3.out, ?_⟩, HB4.out⟩
      intro j hj
      rcases List.mem_append.1 hj with hj | hj
      · exact HALL.out j hj
      · rw [List.mem_singleton.1 hj, HZ.out]
        exact HT.out
    | true =>
      gi_wp2
      exact ⟨(keepsFrom_p HB3.out).trans ((KeepsOthers.setCell _ _ _).from _), ⟨rfl, pre, x, rfl, HALL.out, by rw [HZ.out]; exact HT.out, by rw [HZ.out]; exact (HYY.out.pure HB3.out).set_ 0 _⟩, HB4.out.setCell (p := ⟨bY, 0, none⟩) HSL.out _⟩
  case done =>
    rintro D ys W hD rfl ⟨⟨hX, hY, hall⟩, hB⟩ hK
    subst ha0
    have hz := leastW_no hall
    have HZ := Lib.hid hz
    have s0 : W.cell? ⟨bY, 0, none⟩ = some (.int .i64 0) := hY.cell 0
    have s1 := hY.frozen 0
    have s2 := hY.set_ 0 (.int .i64 0)
    have hK' := (KeepsOthers.setCell W ⟨bY, 0, none⟩ (.int .i64 0)).same D _ hK rfl
    clear hz hall hX hY HX HY HB
    go_wp2_with fail
    refine ⟨by simp, .inl ⟨_, _, rfl, run_takeDeferred hK', ?_⟩⟩
    have hc5 := bkept (grownBy_putObj' _ D (.deferred none)) (fun r e => by cases e; exact ⟨_, hK', rfl⟩) s2
    have hc6 : _ = some (Value.int .i64 0) := hc5.cell 0
    refine ⟨.int .i64 0, ?_, by rw [HZ.out]; rfl, ?_⟩
    · simp [results, Tryz.f191, go_sem, hc6]
    · rw [HNN.out]
      exact (hB.setCell (p := ⟨bY, 0, none⟩) HSL.out _).trans (belowK_b (w := w) (Nat.le_of_eq HNN.out.symm) _ D _ _ (by have := HN1.out; have := HNN.out; omega) hK' rfl rfl)
  case stop =>
    rintro D c pre W hD hpre ⟨⟨rfl, p, y, rfl, hall, hy, hY⟩, hB⟩ hK
    have HZ := Lib.hid (leastW_first hpre hall hy)
    subst ha0
    clear hall hy HX HY HB hpre
    gi_wp2
    refine ⟨by simp, .inl ⟨_, _, rfl, run_takeDeferred hK, ?_⟩⟩
    have hc5 := bkept (grownBy_putObj' W D (.deferred none)) (fun r e => by cases e; exact ⟨_, hK, rfl⟩) hY
    have hc6 : _ = some (Value.int .i64 ((2 ^ y.val : Nat) : Int)) := hc5.cell 0
    refine ⟨.int .i64 ((2 ^ y.val : Nat) : Int), ?_, by rw [HZ.out], ?_⟩
    · simp [results, Tryz.f191, go_sem, hc6]
    · rw [HNN.out]
      exact hB.trans (belowK_b (w := w) (Nat.le_of_eq HNN.out.symm) _ D _ _ (by have := HN1.out; have := HNN.out; omega) hK rfl rfl)
end Go.Proofs.YtfoifdoaleaekaaGreat

namespace Go.Proofs.YtfoifdoaleaekaaGreat
open Go.RowKit Go.Acc
theorem up_tdiv (a y : Nat) (hy : 0 < y) : ((a : Int) + y - 1).tdiv y * y = (upN a y : Nat) := by
  unfold upN
  rw [show (a : Int) + y - 1 = ((a + y - 1 : Nat) : Int) by omega, Int.tdiv_eq_ediv_of_nonneg (by omega), ← Int.natCast_ediv, ← Int.natCast_mul]
theorem up_bd (a y : Nat) (hy : 0 < y) : a ≤ upN a y ∧ upN a y ≤ a + y := by
  have h := Nat.div_add_mod (a + y - 1) y
  have h2 := Nat.mod_lt (a + y - 1) hy
  unfold upN
  rw [Nat.mul_comm] at h
  constructor <;> omega
set_option maxHeartbeats 1000000 in
theorem ffits_is (v : Bv) (a i y : Nat) (r : Bool) (w : World) (hy : isW (y : Int) = true) (ha : a ≤ 1048576) (hi : i ≤ 1048576) (hr : fitsV v a i y = r) :
    Calls Tryz.prog 193 #[.agg #[.int .i64 (v.t : Int), .int .i64 (v.w : Int), .int .u64 (v.n : Int)], .int .i64 (a : Int), .int .i64 (i : Int), .int .i64 (y : Int)] w fun e w' => e = .returned (.bool r) ∧ Below w.heap.size w w' := by
  have hB := (Below.refl w.heap.size w).alloc (Nat.le_refl _) (.cells #[.int .i64 (v.t : Int), .int .i64 (v.w : Int), .int .u64 (v.n : Int)] 185)
  have HB := Lib.hid hB
  have hy8 : 1 ≤ y ∧ y ≤ 8 := by have := w_cases hy; omega
  clear hB hy
  have hX := Blk.new w 185 #[.int .i64 (v.t : Int), .int .i64 (v.w : Int), .int .u64 (v.n : Int)]
  cases hin : inl v.t with
  | true =>
    have HI := Lib.hid (show inlineT (v.t : Int) = true from hin)
    have HR := Lib.hid (show decide (v.w ≤ y) = r by rw [← hr]; unfold fitsV; rw [if_pos hin])
    clear hr hin
    have HX := Lib.hid hX
    clear hX
    go_enter Tryz.func193, Tryz.ntmps193
    go_wp2_with fail
    go_at_call 17
    refine (inline_spec (v.t : Int) _).mono ?_
    rw [HI.out]
    rintro e w' ⟨rfl, hb⟩
    have HK := Lib.hid (HX.out.pure hb)
    have x1 : w'.cell? ⟨w.heap.size, 1, none⟩ = some (.int .i64 (v.w : Int)) := HK.out.cell 1
    have HB2 := Lib.hid (pure_below HB.out hb)
    clear hb
    go_wp2_with fail
    go_ret
    exact ⟨ret_bool HR.out, HB2.out⟩
  | false =>
    have HI := Lib.hid (show inlineT (v.t : Int) = false from hin)
    have hne : ¬ inl v.t = true := by rw [hin]; decide
    have hr' : decide (v.n ≤ a ∧ bWidth (upN a y + i * y - v.n) ≤ y) = r := by rw [← hr]; unfold fitsV; rw [if_neg hne]
    have HX := Lib.hid hX
    clear hr hin hne hX
    by_cases hna : v.n ≤ a
    · obtain ⟨hu1, hu2⟩ := up_bd a y (by omega)
      have hiy : i * y ≤ 1048576 * 8 := Nat.mul_le_mul hi hy8.2
      obtain ⟨u, hu⟩ : ∃ u, upN a y = u := ⟨_, rfl⟩
      obtain ⟨q, hq⟩ : ∃ q : Nat, i * y = q := ⟨_, rfl⟩
      have ht := up_tdiv a y (by omega)
      rw [hu] at ht hu1 hu2 hr'
      rw [hq] at hiy hr'
      obtain ⟨d, hd⟩ : ∃ d, u + q - v.n = d := ⟨_, rfl⟩
      rw [hd] at hr'
      obtain ⟨p, hp⟩ : ∃ p : Nat, ((a : Int) + y - 1).tdiv y = p := ⟨(a + y - 1) / y, by rw [show (a : Int) + y - 1 = ((a + y - 1 : Nat) : Int) by omega, Int.tdiv_eq_ediv_of_nonneg (by omega)]; rfl⟩
      rw [hp] at ht
      have hp9 : p ≤ u := by
        have : (p : Int) * y = ((p * y : Nat) : Int) := by simp
        rw [this] at ht
        have h3 : p * y = u := by exact_mod_cast ht
        have : p * 1 ≤ p * y := Nat.mul_le_mul_left p (by omega)
        omega
      have HR := Lib.hid (show decide (bWidth d ≤ y) = r by rw [← hr']; exact decide_eq_decide.2 ⟨fun h => ⟨hna, h⟩, fun h => h.2⟩)
      have e1 : IntKind.i64.wrap ((a : Int) + y) = (a : Int) + y := IntWalk.i64_in _ (by omega)
      have e2 : IntKind.i64.wrap ((a : Int) + y - 1) = (a : Int) + y - 1 := IntWalk.i64_in _ (by omega)
      have e3 : IntKind.i64.wrap (p : Int) = p := IntWalk.i64_in _ (by omega)
      have hiq : (i : Int) * (y : Int) = (q : Int) := by rw [← hq]; simp
      have e4 : IntKind.i64.wrap (u : Int) = u := IntWalk.i64_in _ (by omega)
      have e5 : IntKind.i64.wrap (q : Int) = q := IntWalk.i64_in _ (by omega)
      have e6 : IntKind.i64.wrap ((u : Int) + q) = (u : Int) + q := IntWalk.i64_in _ (by omega)
      have e7 : IntKind.u64.wrap ((u : Int) + q) = (u : Int) + q := u64_in _ (by omega)
      have e8 : (u : Int) + q - v.n = d := by omega
      have e9 : IntKind.u64.wrap (d : Int) = d := u64_in _ (by omega)
      have e10 : IntKind.u64.wrap (a : Int) = a := u64_in _ (by omega)
      have hyn : ¬ y = 0 := by omega
      have HWD := Lib.hid (show wdU d = (bWidth d : Nat) from wdU_b d)
      have hd64 : d < 18446744073709551616 := by omega
      obtain ⟨bd, hbd⟩ : ∃ x, bWidth d = x := ⟨_, rfl⟩
      rw [hbd] at HR HWD
      have hgt : decide ((a : Int) < (v.n : Int)) = false := decide_eq_false (by omega)
      have hgt' : decide (a < v.n) = false := decide_eq_false (by omega)
      have HH := Lib.hid (And.intro hd64 hbd)
      clear hr' hu hq hd hd64 hbd hna hp9 hu1 hu2 hiy
      go_enter Tryz.func193, Tryz.ntmps193
      go_wp2_with fail
      go_at_call 17
      refine (inline_spec (v.t : Int) _).mono ?_
      rw [HI.out]
      rintro e w' ⟨rfl, hb⟩
      have HK := Lib.hid (HX.out.pure hb)
      have x2 : w'.cell? ⟨w.heap.size, 2, none⟩ = some (.int .u64 (v.n : Int)) := HK.out.cell 2
      have HB2 := Lib.hid (pure_below HB.out hb)
      clear hb
      go_wp2_with fail
      go_at_call 215
      refine (wof_is d bd _ HH.out.1 HWD.out).mono ?_
      rintro e w1 ⟨rfl, rfl⟩
      clear ht hp e1 e2 e3 hiq e4 e5 e6 e7 e8 e9 e10 hyn hgt hgt' x2
      go_wp2_with fail
      go_ret
      exact ⟨ret_bool HR.out, HB2.out⟩
    · have HR := Lib.hid (show false = r by rw [← hr', decide_eq_false]; exact fun h => hna h.1)
      have hgt : decide (a < v.n) = true := decide_eq_true (by omega)
      have e10 : IntKind.u64.wrap (a : Int) = a := u64_in _ (by omega)
      clear hr' hna
      go_enter Tryz.func193, Tryz.ntmps193
      go_wp2_with fail
      go_at_call 17
      refine (inline_spec (v.t : Int) _).mono ?_
      rw [HI.out]
      rintro e w' ⟨rfl, hb⟩
      have HK := Lib.hid (HX.out.pure hb)
      have x2 : w'.cell? ⟨w.heap.size, 2, none⟩ = some (.int .u64 (v.n : Int)) := HK.out.cell 2
      have HB2 := Lib.hid (pure_below HB.out hb)
      clear hb
      go_wp2_with fail
      go_ret
      exact ⟨ret_bool HR.out, HB2.out⟩
theorem pow4_is (y : Fin 4) : isW ((2 ^ y.val : Nat) : Int) = true := by
  have h : ∀ y : Fin 4, isW ((2 ^ y.val : Nat) : Int) = true := by decide
  exact h y
set_option maxHeartbeats 1000000 in
theorem one1_spec (v : Bv) (a i y bv ba bi : Nat) (w : World) (hv : Blk w bv 185 #[.int .i64 (v.t : Int), .int .i64 (v.w : Int), .int .u64 (v.n : Int)]) (ha : Blk w ba 3 #[.int .i64 (a : Int)]) (hi : Blk w bi 3 #[.int .i64 (i : Int)])
    (hy : isW (y : Int) = true) (ha2 : a ≤ 1048576) (hi2 : i ≤ 1048576) :
    Calls Tryz.prog 192 #[.int .i64 (y : Int), .pointer (some ⟨bv, 0, none⟩), .pointer (some ⟨ba, 0, none⟩), .pointer (some ⟨bi, 0, none⟩)] w fun e w' => e = .returned (.bool (fitsV v a i y)) ∧ Below w.heap.size w w' := by
  obtain ⟨r, hr⟩ : ∃ r, fitsV v a i y = r := ⟨_, rfl⟩
  rw [hr]
  have HF := Lib.hid (ffits_is v a i y r w hy ha2 hi2 hr)
  have v0 : w.cell? ⟨bv, 0, none⟩ = some (.int .i64 (v.t : Int)) := hv.cell 0
  have v1 : w.cell? ⟨bv, 1, none⟩ = some (.int .i64 (v.w : Int)) := hv.cell 1
  have v2 : w.cell? ⟨bv, 2, none⟩ = some (.int .u64 (v.n : Int)) := hv.cell 2
  have a0 : w.cell? ⟨ba, 0, none⟩ = some (.int .i64 (a : Int)) := ha.cell 0
  have i0 : w.cell? ⟨bi, 0, none⟩ = some (.int .i64 (i : Int)) := hi.cell 0
  clear hv ha hi hy ha2 hi2 hr
  go_enter Tryz.func192, Tryz.ntmps192
  go_wp2_with fail
  go_at_call 193
  refine HF.out.mono ?_
  rintro e w' ⟨rfl, hb⟩
  have HB := Lib.hid hb
  clear hb v0 v1 v2 a0 i0
  go_wp2_with fail
  go_ret
  exact ⟨rfl, HB.out⟩
set_option maxHeartbeats 1000000 in
theorem one_spec (v : Bv) (a i : Nat) (w : World) (ha2 : a ≤ 1048576) (hi2 : i ≤ 1048576) :
    Calls Tryz.prog 128 #[.agg #[.int .i64 (v.t : Int), .int .i64 (v.w : Int), .int .u64 (v.n : Int)], .int .i64 (a : Int), .int .i64 (i : Int)] w fun e w' => e = .returned (.int .i64 (leastW (fitsV v a i) : Nat)) ∧ Below w.heap.size w w' := by
  have HB := Lib.hid (show Below w.heap.size w (((w.alloc (.cells #[.int .i64 (v.t : Int), .int .i64 (v.w : Int), .int .u64 (v.n : Int)] 185)).alloc (.cells #[.int .i64 (a : Int)] 3)).alloc (.cells #[.int .i64 (i : Int)] 3)) from (((Below.refl _ _).alloc (Nat.le_refl _) _).alloc (by simp) _).alloc (by simp; omega) _)
  have HX := Lib.hid (((Blk.new w 185 #[.int .i64 (v.t : Int), .int .i64 (v.w : Int), .int .u64 (v.n : Int)]).alloc (.cells #[.int .i64 (a : Int)] 3)).alloc (.cells #[.int .i64 (i : Int)] 3))
  have HY := Lib.hid ((blk_new2 w (.cells #[.int .i64 (v.t : Int), .int .i64 (v.w : Int), .int .u64 (v.n : Int)] 185) 3 #[.int .i64 (a : Int)]).alloc (.cells #[.int .i64 (i : Int)] 3))
  have HZ := Lib.hid (blk_new2 (w.alloc (.cells #[.int .i64 (v.t : Int), .int .i64 (v.w : Int), .int .u64 (v.n : Int)] 185)) (.cells #[.int .i64 (a : Int)] 3) 3 #[.int .i64 (i : Int)])
  have e : (w.alloc (.cells #[.int .i64 (v.t : Int), .int .i64 (v.w : Int), .int .u64 (v.n : Int)] 185)).heap.size + 1 = w.heap.size + 1 + 1 := by simp
  rw [e] at HZ
  obtain ⟨r, hr⟩ : ∃ r, leastW (fitsV v a i) = r := ⟨_, rfl⟩
  have HRR := Lib.hid hr
  rw [hr]
  have HA := Lib.hid (And.intro ha2 hi2)
  clear e hr
  go_enter Tryz.func128, Tryz.ntmps128
  go_wp2_with fail
  go_at_call 190
  refine (fwithin_spec a _ (by omega)).mono ?_
  rintro e w' ⟨rfl, rfl⟩
  go_wp2_with fail
  go_at_call 190
  refine (fwithin_spec i _ (by omega)).mono ?_
  rintro e w' ⟨rfl, rfl⟩
  go_wp2_with fail
  go_at_call 191
  generalize (((w.alloc (.cells #[.int .i64 (v.t : Int), .int .i64 (v.w : Int), .int .u64 (v.n : Int)] 185)).alloc (.cells #[.int .i64 (a : Int)] 3)).alloc (.cells #[.int .i64 (i : Int)] 3)) = w1 at HB HX HY HZ ⊢
  generalize w.heap.size + 1 + 1 = bi at HZ ⊢
  generalize w.heap.size + 1 = ba at HY ⊢
  have HF := fun (y : Fin 4) (W : World) (hW : Below w1.heap.size w1 W) => one1_spec v a i (2 ^ y.val) w.heap.size ba bi W (HX.out.pure hW) (HY.out.pure hW) (HZ.out.pure hW) (pow4_is y) HA.out.1 HA.out.2
  refine (least_spec 192 #[.pointer (some ⟨w.heap.size, 0, none⟩), .pointer (some ⟨ba, 0, none⟩), .pointer (some ⟨bi, 0, none⟩)] (fitsV v a i) w1 Tryz.call192 HF).mono ?_
  rw [HRR.out]
  rintro e w' ⟨rfl, hb⟩
  have HB2 := Lib.hid (pure_below HB.out hb)
  clear hb
  go_wp2_with fail
  go_ret
  exact ⟨rfl, HB2.out⟩
end Go.Proofs.YtfoifdoaleaekaaGreat

namespace Go.Proofs.YtfoifdoaleaekaaGreat
open Go.RowKit Go.Acc
def codeE (x : Int) : Int := if isW x = true then 0 else 2
def codeW (x : Int) : Int := if x = 2 then 1 else if x = 4 then 2 else if x = 8 then 3 else 0
set_option maxHeartbeats 1000000 in
theorem code_spec (x : Int) (w : World) : Calls Tryz.prog 84 #[.int .i64 x] w fun e w' => e = .returned (.tuple #[.int .i64 (codeW x), .int .i64 (codeE x)]) ∧ w = w' := by
  cases hw : isW x with
  | true =>
    have hx := isW_iff.1 hw
    clear hw
    rcases hx with rfl | rfl | rfl | rfl
    all_goals
      go_enter Tryz.func84, Tryz.ntmps84
      go_wp2
      refine wp_loop_rounds 5 ?_
      repeat (rw [rounds_succ]; go_wp2)
      go_ret2
      exact ⟨rfl, rfl⟩
  | false =>
    have hx := isW_no.1 hw
    have H1 := Lib.hid (show codeW x = 0 by unfold codeW; rw [if_neg hx.2.1, if_neg hx.2.2.1, if_neg hx.2.2.2])
    have H2 := Lib.hid (show codeE x = 2 by unfold codeE; rw [hw]; rfl)
    rw [H1.out, H2.out]
    have e1 : (x == 1) = false := beq_eq_false_iff_ne.mpr hx.1
    have e2 : (x == 2) = false := beq_eq_false_iff_ne.mpr hx.2.1
    have e4 : (x == 4) = false := beq_eq_false_iff_ne.mpr hx.2.2.1
    have e8 : (x == 8) = false := beq_eq_false_iff_ne.mpr hx.2.2.2
    clear hx hw
    go_enter Tryz.func84, Tryz.ntmps84
    go_wp2
    refine wp_loop_rounds 5 ?_
    repeat (rw [rounds_succ]; go_wp2)
    go_ret2
    exact ⟨rfl, rfl⟩
theorem codeE_no {x : Int} (h : isW x = false) : codeE x = 2 := by unfold codeE; rw [h]; rfl
theorem codeE_yes {x : Int} (h : isW x = true) : codeE x = 0 := by unfold codeE; rw [h]; rfl
set_option maxHeartbeats 400000 in
theorem iswidth_spec (x : Int) (w : World) : Calls Tryz.prog 41 #[.int .i64 x] w fun e w' => e = .returned (.bool (isW x)) ∧ w = w' := by
  cases hw : isW x with
  | true =>
    have H := Lib.hid (codeE_yes hw)
    clear hw
    go_enter Tryz.func41, Tryz.ntmps41
    go_wp2_with fail
    go_at_call 84
    refine (code_spec _ _).mono ?_
    rw [H.out]
    rintro e w1 ⟨rfl, rfl⟩
    go_wp2
    go_ret
    exact ⟨rfl, rfl⟩
  | false =>
    have H := Lib.hid (codeE_no hw)
    clear hw
    go_enter Tryz.func41, Tryz.ntmps41
    go_wp2_with fail
    go_at_call 84
    refine (code_spec _ _).mono ?_
    rw [H.out]
    rintro e w1 ⟨rfl, rfl⟩
    go_wp2
    go_ret
    exact ⟨rfl, rfl⟩
set_option maxHeartbeats 1000000 in
theorem inside_spec (A : Option Addr) (n c : Nat) (a m : Int) (w : World) (hn : n ≤ 9223372036854775807) : Calls Tryz.prog 35 #[.slice A n c, .int .i64 a, .int .i64 m] w fun e w' => e = .returned (.bool (inB n a m)) ∧ w = w' := by
  by_cases h1 : 0 ≤ a
  · by_cases h2 : 0 ≤ m
    · by_cases h3 : a ≤ n
      · have ha : (0 : Int) ≤ (n : Int) - a := by omega
        by_cases h4 : m ≤ (n : Int) - a
        · have H := Lib.hid (show inB n a m = true from inB_iff.2 ⟨h1, h2, by omega⟩)
          go_enter Tryz.func35, Tryz.ntmps35
          go_wp2
          go_ret
          exact ⟨ret_bool H.out.symm, rfl⟩
        · have H := Lib.hid (show inB n a m = false from decide_eq_false (fun h => h4 (by omega)))
          have hd : decide (m ≤ (n : Int) - a) = false := decide_eq_false h4
          go_enter Tryz.func35, Tryz.ntmps35
          go_wp2
          go_ret
          exact ⟨ret_bool H.out.symm, rfl⟩
      · have H := Lib.hid (show inB n a m = false from decide_eq_false (fun h => h3 (by omega)))
        have hd : decide (a ≤ (n : Int)) = false := decide_eq_false h3
        go_enter Tryz.func35, Tryz.ntmps35
        go_wp2
        go_ret
        exact ⟨ret_bool H.out.symm, rfl⟩
    · have H := Lib.hid (show inB n a m = false from decide_eq_false (fun h => h2 (by omega)))
      have hd : decide (0 ≤ m) = false := decide_eq_false h2
      go_enter Tryz.func35, Tryz.ntmps35
      go_wp2
      go_ret
      exact ⟨ret_bool H.out.symm, rfl⟩
  · have H := Lib.hid (show inB n a m = false from decide_eq_false (fun h => h1 (by omega)))
    have hd : decide (0 ≤ a) = false := decide_eq_false h1
    go_enter Tryz.func35, Tryz.ntmps35
    go_wp2
    go_ret
    exact ⟨ret_bool H.out.symm, rfl⟩
theorem cell0 {w : World} {g : Nat} {t : TypeId} {p q t' v : Value} (h : Blk w g t #[p, q, t', v]) : w.cell? ⟨g, 0, none⟩ = some p := h.cell 0
theorem cell1 {w : World} {g : Nat} {t : TypeId} {p q t' v : Value} (h : Blk w g t #[p, q, t', v]) : w.cell? ⟨g, 1, none⟩ = some q := h.cell 1
theorem cell2 {w : World} {g : Nat} {t : TypeId} {p q t' v : Value} (h : Blk w g t #[p, q, t', v]) : w.cell? ⟨g, 2, none⟩ = some t' := h.cell 2
theorem cell3 {w : World} {g : Nat} {t : TypeId} {p q t' v : Value} (h : Blk w g t #[p, q, t', v]) : w.cell? ⟨g, 3, none⟩ = some v := h.cell 3
end Go.Proofs.YtfoifdoaleaekaaGreat
