/-
  Package list: the shapes of the types.
  Package build: the plain builder. No program in sight. A tree, the state of the builder, and what each call does to it where no error comes up.
  Package build: where bytes lie. No program in sight.
-/
import Derived.Test.YtfoifdoaleaekaaGreatQf03
import Derived.Deep.WholeRow
import Derived.Deep.DeepCutAuto
namespace Go.Proofs.YtfoifdoaleaekaaGreat
open Go.RowKit Go.Acc
def fnV (F : FuncId) : Value := .func (.func F) #[] #[]
def shZ : List Value := [.int .i64 0, .nilFunc, .nilFunc, .int .i64 0]
def shV (t : Nat) : List Value :=
  if vecT t = true then (if 0 < manyT t then [.int .i64 0, fnV 91, fnV 92, .int .i64 0] else [.int .i64 1, fnV 93, fnV 92, .int .i64 0]) else shZ
def shR (t : Nat) : List Value :=
  if t = 10 then [.int .i64 1, fnV 93, fnV 94, .int .i64 1] else if t = 9 then [.int .i64 3, fnV 93, fnV 94, .int .i64 1] else shV t
def shKr (k t : Nat) : List Value := if t < k then shV t else shZ
theorem shV_len (t : Nat) : (shV t).length = 4 := by unfold shV; split <;> (try split) <;> rfl
theorem shKr_len (k t : Nat) : (shKr k t).length = 4 := by unfold shKr; split; exact shV_len t; rfl
def shK (k : Nat) : Array Value := ((List.range 37).flatMap (shKr k)).toArray
def shS : Array Value := ((List.range 37).flatMap shR).toArray
def shZs : Array Value := ((List.range 37).flatMap fun _ => shZ).toArray
theorem shinfo : (Tryz.prog.info? 99).map (fun i => (i.zero, i.size)) = some (some (Value.agg shZs), 148) := by kernel_rfl
theorem shK_size (k : Nat) : (shK k).size = 148 := by
  unfold shK
  rw [List.size_toArray, fm_length (shKr_len k), List.length_range]
theorem shK_get {k t i : Nat} (ht : t < 37) (hi : i < 4) : (shK k)[t * 4 + i]? = (shKr k t)[i]? := by
  unfold shK
  rw [List.getElem?_toArray, fm_at (shKr_len k) (List.range 37) t i (by simpa using ht) hi, List.getElem_range]
theorem shK_skip {k : Nat} (h : vecT k = false) : shK (k + 1) = shK k := by
  unfold shK
  congr 1
  have e : shKr (k + 1) = shKr k := by
    funext t
    unfold shKr
    by_cases h1 : t < k
    · rw [if_pos h1, if_pos (by omega)]
    · by_cases h2 : t = k
      · subst h2
        rw [if_pos (by omega), if_neg h1]
        unfold shV
        rw [h]
        rfl
      · rw [if_neg (by omega), if_neg h1]
  rw [e]
theorem shK_set {k : Nat} (hk : k < 37) {a b c d : Value} (h : shV k = [a, b, c, d]) : ((((shK k).setIfInBounds (k * 4) a).setIfInBounds (k * 4 + 1) b).setIfInBounds (k * 4 + 2) c).setIfInBounds (k * 4 + 3) d = shK (k + 1) := by
  apply Array.ext_getElem?
  intro j
  have hs := shK_size k
  by_cases hj : j < 148
  · have hd : j / 4 < 37 := by omega
    have e : j / 4 * 4 + j % 4 = j := by omega
    have h1 := shK_get (k := k) hd (show j % 4 < 4 by omega)
    have h2 := shK_get (k := k + 1) hd (show j % 4 < 4 by omega)
    rw [e] at h1 h2
    rw [h2]
    simp only [Array.getElem?_setIfInBounds, Array.size_setIfInBounds, hs]
    by_cases hkj : j / 4 = k
    · have hkr : shKr (k + 1) (j / 4) = [a, b, c, d] := by rw [hkj]; unfold shKr; rw [if_pos (by omega), h]
      rw [hkr]
      have hm : j % 4 = 0 ∨ j % 4 = 1 ∨ j % 4 = 2 ∨ j % 4 = 3 := by omega
      rcases hm with hm | hm | hm | hm <;> rw [hm]
      · rw [if_neg (by omega), if_neg (by omega), if_neg (by omega), if_pos (by omega), if_pos (by omega)]; rfl
      · rw [if_neg (by omega), if_neg (by omega), if_pos (by omega), if_pos (by omega)]; rfl
      · rw [if_neg (by omega), if_pos (by omega), if_pos (by omega)]; rfl
      · rw [if_pos (by omega), if_pos (by omega)]; rfl
    · rw [if_neg (by omega), if_neg (by omega), if_neg (by omega), if_neg (by omega), h1]
      congr 1
      unfold shKr
      by_cases h1 : j / 4 < k
      · rw [if_pos h1, if_pos (by omega)]
      · rw [if_neg h1, if_neg (by omega)]
  · rw [Array.getElem?_eq_none (by simp [hs]; omega), Array.getElem?_eq_none (by rw [shK_size]; omega)]
theorem wpl_loadv {ops : Array Oper} {rest : List Oper} {o : Oper} {a : Act} {w : World} {Q : Exit → Act → World → Prop} (hgd : o.guard = none) (p : Operand) (ty : TypeId) (ho : o.op = .load ty p) (g : Nat) (hp : a.eval p = .pointer (some ⟨g, 0, none⟩)) (v : Value)
    (h : (loadVar ty ⟨g, 0, none⟩).run Tryz.prog w = .ok v w) (hk : wpList Tryz.prog ops Q rest (a.put o.dst v) w) : wpList Tryz.prog ops Q (o :: rest) a w := by
  refine wpList_plain hgd fun K hK => ?_
  unfold Oper.wp
  simp only [execOp, ho, hp, Instr.loadAt, Instr.sureAddr, Sem.run_bind, Sem.run_pure, Result.andThen_ok, h]
  exact hK _ _ hk
theorem wpl_storev {ops : Array Oper} {rest : List Oper} {o : Oper} {a : Act} {w w' : World} {Q : Exit → Act → World → Prop} (hgd : o.guard = none) (p x : Operand) (ty : TypeId) (ho : o.op = .store ty p x) (g : Nat) (hp : a.eval p = .pointer (some ⟨g, 0, none⟩)) (v : Value) (hx : a.eval x = v)
    (h : (storeVar ty ⟨g, 0, none⟩ v).run Tryz.prog w = .ok () w') (hk : wpList Tryz.prog ops Q rest (a.put o.dst undef) w') : wpList Tryz.prog ops Q (o :: rest) a w := by
  refine wpList_plain hgd fun K hK => ?_
  unfold Oper.wp
  simp only [execOp, ho, hp, hx, Instr.storeAt, Instr.sureAddr, Sem.run_bind, Sem.run_pure, Result.andThen_ok, h]
  exact hK _ _ hk
theorem blk_store {W : World} {g i : Nat} {t : TypeId} {cs : Array Value} {v : Value} (h : Blk W g t cs) (hi : i < cs.size) (h1 : v.oneCell' = true) : (store ⟨g, i, none⟩ v).run Tryz.prog W = .ok () (W.setCell ⟨g, i, none⟩ v) := by
  rw [run_store Tryz.prog W _ v _ h1, h.cell i, Array.getElem?_eq_getElem hi]
  simp [h.frozen i]
set_option maxRecDepth 100000 in
set_option maxHeartbeats 8000000 in
theorem shapes_spec (w : World) : Calls Tryz.prog 56 #[] w fun e w' => e = .returned (.agg shS) ∧ Below w.heap.size w w' := by
  have hz := (zero_of_info shinfo).1
  have hsz : shZs.size = 148 := by kernel_rfl
  go_enter Tryz.func56, Tryz.ntmps56
  go_wp2_with fail
  go_loopw [2, 3, 4, 5, 6] (fun _ _ _ _ i wr => ∃ k : Nat, k ≤ 37 ∧ i = .int .i64 k ∧ Blk wr (w.heap.size + 1) 99 (shK k) ∧ Blk wr w.heap.size 99 shZs ∧ Below w.heap.size w wr) (fun _ _ _ _ i _ => 37 - (intOf i).toNat)
  case atStart => exact ⟨0, by omega, rfl, by rw [show shK 0 = shZs by kernel_rfl]; exact Blk.new_ (by simp) _ _, (Blk.new w _ _).alloc _, ((Below.refl _ _).alloc (Nat.le_refl _) _).alloc (by simp) _⟩
  case round =>
    obtain ⟨k, hk, rfl, hK, hZ, hB⟩ := hrel
    have HK := Lib.hid hK
    have HZ := Lib.hid hZ
    have HB := Lib.hid hB
    clear hK hZ hB hz hsz
    by_cases hlt : k < 37
    · have hk0 : (0 : Int) ≤ k := by omega
      have hk37 : (k : Int) < 37 := by omega
      go_wp2_with fail
      go_at_call 90
      refine (elem_spec k _).mono ?_
      rintro e w1 ⟨rfl, hb⟩
      replace HK := Lib.hid (HK.out.pure hb)
      replace HZ := Lib.hid (HZ.out.pure hb)
      replace HB := Lib.hid (pure_below HB.out hb)
      clear hb
      cases hv : vecT k with
      | false =>
        have HV := Lib.hid hv
        clear hv
        go_wp2
        go_roundw
        case rel => exact ⟨k + 1, by omega, by go_num, by rw [shK_skip HV.out]; exact HK.out, HZ.out, HB.out⟩
        case measure => simp [intOf]; omega
      | true =>
        have c0 : w1.cell? ⟨w.heap.size + 1, k * 4, none⟩ = some (.int .i64 0) := (HK.out.cell (k * 4)).trans (by rw [show k * 4 = k * 4 + 0 by omega, shK_get hlt (by omega)]; unfold shKr; rw [if_neg (by omega)]; rfl)
        have c1 : w1.cell? ⟨w.heap.size + 1, k * 4 + 1, none⟩ = some .nilFunc := (HK.out.cell (k * 4 + 1)).trans (by rw [shK_get hlt (by omega)]; unfold shKr; rw [if_neg (by omega)]; rfl)
        have c2 : w1.cell? ⟨w.heap.size + 1, k * 4 + 2, none⟩ = some .nilFunc := (HK.out.cell (k * 4 + 2)).trans (by rw [shK_get hlt (by omega)]; unfold shKr; rw [if_neg (by omega)]; rfl)
        have c3 : w1.cell? ⟨w.heap.size + 1, k * 4 + 3, none⟩ = some (.int .i64 0) := (HK.out.cell (k * 4 + 3)).trans (by rw [shK_get hlt (by omega)]; unfold shKr; rw [if_neg (by omega)]; rfl)
        have f0 := HK.out.frozen (k * 4)
        have f1 := HK.out.frozen (k * 4 + 1)
        have f2 := HK.out.frozen (k * 4 + 2)
        have f3 := HK.out.frozen (k * 4 + 3)
        by_cases hm : 0 < manyT k
        · have hvr : shV k = [.int .i64 0, .func (.func 91) #[] #[], .func (.func 92) #[] #[], .int .i64 0] := by unfold shV; rw [if_pos hv, if_pos hm]; rfl
          have HV := Lib.hid hvr
          have hs1 := blk_store (i := k * 4 + 1) (v := .func (.func 91) #[] #[]) (HK.out.set_ (k * 4) (.int .i64 0)) (by simp [shK_size]; omega) rfl
          have hs2 := blk_store (i := k * 4 + 2) (v := .func (.func 92) #[] #[]) ((HK.out.set_ (k * 4) (.int .i64 0)).set_ (k * 4 + 1) (.func (.func 91) #[] #[])) (by simp [shK_size]; omega) rfl
          clear hv hvr
          go_wp2
          go_roundw
          case rel => exact ⟨k + 1, by omega, by go_num, by rw [← shK_set hlt HV.out]; exact (((HK.out.set_ _ _).set_ _ _).set_ _ _).set_ _ _, (((HZ.out.far (by simp) _).far (by simp) _).far (by simp) _).far (by simp) _, (((HB.out.setCell (Nat.le_succ _) _).setCell (Nat.le_succ _) _).setCell (Nat.le_succ _) _).setCell (Nat.le_succ _) _⟩
          case measure => simp [intOf]; omega
        · have hvr : shV k = [.int .i64 1, .func (.func 93) #[] #[], .func (.func 92) #[] #[], .int .i64 0] := by unfold shV; rw [if_pos hv, if_neg hm]; rfl
          have HV := Lib.hid hvr
          have hs1 := blk_store (i := k * 4 + 1) (v := .func (.func 93) #[] #[]) (HK.out.set_ (k * 4) (.int .i64 1)) (by simp [shK_size]; omega) rfl
          have hs2 := blk_store (i := k * 4 + 2) (v := .func (.func 92) #[] #[]) ((HK.out.set_ (k * 4) (.int .i64 1)).set_ (k * 4 + 1) (.func (.func 93) #[] #[])) (by simp [shK_size]; omega) rfl
          clear hv hvr
          go_wp2
          go_roundw
          case rel => exact ⟨k + 1, by omega, by go_num, by rw [← shK_set hlt HV.out]; exact (((HK.out.set_ _ _).set_ _ _).set_ _ _).set_ _ _, (((HZ.out.far (by simp) _).far (by simp) _).far (by simp) _).far (by simp) _, (((HB.out.setCell (Nat.le_succ _) _).setCell (Nat.le_succ _) _).setCell (Nat.le_succ _) _).setCell (Nat.le_succ _) _⟩
          case measure => simp [intOf]; omega
    · obtain rfl : k = 37 := by omega
      have hcs : (shK 37).size = 148 := shK_size 37
      have c40 : wr.cell? ⟨w.heap.size + 1, 40, none⟩ = some (.int .i64 0) := (HK.out.cell 40).trans (by kernel_rfl)
      have c43 : wr.cell? ⟨w.heap.size + 1, 43, none⟩ = some (.int .i64 0) := (HK.out.cell 43).trans (by kernel_rfl)
      have c36 : wr.cell? ⟨w.heap.size + 1, 36, none⟩ = some (.int .i64 0) := (HK.out.cell 36).trans (by kernel_rfl)
      have c39 : wr.cell? ⟨w.heap.size + 1, 39, none⟩ = some (.int .i64 0) := (HK.out.cell 39).trans (by kernel_rfl)
      have f40 := HK.out.frozen 40
      have f41 := HK.out.frozen 41
      have f42 := HK.out.frozen 42
      have f43 := HK.out.frozen 43
      have f36 := HK.out.frozen 36
      have f37 := HK.out.frozen 37
      have f38 := HK.out.frozen 38
      have f39 := HK.out.frozen 39
      have HB0 := HK
      have HB1 := Lib.hid (HB0.out.set_ 40 (.int .i64 1))
      have s41 := blk_store (i := 41) (v := (.func (.func 93) #[] #[])) HB1.out (by simp [hcs]) rfl
      have HB2 := Lib.hid (HB1.out.set_ 41 (.func (.func 93) #[] #[]))
      have s42 := blk_store (i := 42) (v := (.func (.func 94) #[] #[])) HB2.out (by simp [hcs]) rfl
      have HB3 := Lib.hid (HB2.out.set_ 42 (.func (.func 94) #[] #[]))
      have HB4 := Lib.hid (HB3.out.set_ 43 (.int .i64 1))
      have HB5 := Lib.hid (HB4.out.set_ 36 (.int .i64 3))
      have s37 := blk_store (i := 37) (v := (.func (.func 93) #[] #[])) HB5.out (by simp [hcs]) rfl
      have HB6 := Lib.hid (HB5.out.set_ 37 (.func (.func 93) #[] #[]))
      have s38 := blk_store (i := 38) (v := (.func (.func 94) #[] #[])) HB6.out (by simp [hcs]) rfl
      have HB7 := Lib.hid (HB6.out.set_ 38 (.func (.func 94) #[] #[]))
      have HB8 := Lib.hid (HB7.out.set_ 39 (.int .i64 1))
      have hfin : Blk ((((((((wr.setCell ⟨w.heap.size + 1, 40, none⟩ (.int .i64 1)).setCell ⟨w.heap.size + 1, 41, none⟩ (.func (.func 93) #[] #[])).setCell ⟨w.heap.size + 1, 42, none⟩ (.func (.func 94) #[] #[])).setCell ⟨w.heap.size + 1, 43, none⟩ (.int .i64 1)).setCell ⟨w.heap.size + 1, 36, none⟩ (.int .i64 3)).setCell ⟨w.heap.size + 1, 37, none⟩ (.func (.func 93) #[] #[])).setCell ⟨w.heap.size + 1, 38, none⟩ (.func (.func 94) #[] #[])).setCell ⟨w.heap.size + 1, 39, none⟩ (.int .i64 1)) (w.heap.size + 1) 99 shS := by
        have := HB8.out
        rw [show ((((((((shK 37).setIfInBounds 40 (.int .i64 1)).setIfInBounds 41 (.func (.func 93) #[] #[])).setIfInBounds 42 (.func (.func 94) #[] #[])).setIfInBounds 43 (.int .i64 1)).setIfInBounds 36 (.int .i64 3)).setIfInBounds 37 (.func (.func 93) #[] #[])).setIfInBounds 38 (.func (.func 94) #[] #[])).setIfInBounds 39 (.int .i64 1) = shS by kernel_rfl] at this
        exact this
      have HFIN := Lib.hid hfin
      clear HB0 HB1 HB2 HB3 HB4 HB5 HB6 HB7 HB8 hfin hcs
      have HZF : Hid (Blk ((((((((wr.setCell ⟨w.heap.size + 1, 40, none⟩ (.int .i64 1)).setCell ⟨w.heap.size + 1, 41, none⟩ (.func (.func 93) #[] #[])).setCell ⟨w.heap.size + 1, 42, none⟩ (.func (.func 94) #[] #[])).setCell ⟨w.heap.size + 1, 43, none⟩ (.int .i64 1)).setCell ⟨w.heap.size + 1, 36, none⟩ (.int .i64 3)).setCell ⟨w.heap.size + 1, 37, none⟩ (.func (.func 93) #[] #[])).setCell ⟨w.heap.size + 1, 38, none⟩ (.func (.func 94) #[] #[])).setCell ⟨w.heap.size + 1, 39, none⟩ (.int .i64 1)) w.heap.size 99 shZs) := Lib.hid ((((((((HZ.out.far (by simp) _).far (by simp) _).far (by simp) _).far (by simp) _).far (by simp) _).far (by simp) _).far (by simp) _).far (by simp) _)
      have HBF : Hid (Below w.heap.size w ((((((((wr.setCell ⟨w.heap.size + 1, 40, none⟩ (.int .i64 1)).setCell ⟨w.heap.size + 1, 41, none⟩ (.func (.func 93) #[] #[])).setCell ⟨w.heap.size + 1, 42, none⟩ (.func (.func 94) #[] #[])).setCell ⟨w.heap.size + 1, 43, none⟩ (.int .i64 1)).setCell ⟨w.heap.size + 1, 36, none⟩ (.int .i64 3)).setCell ⟨w.heap.size + 1, 37, none⟩ (.func (.func 93) #[] #[])).setCell ⟨w.heap.size + 1, 38, none⟩ (.func (.func 94) #[] #[])).setCell ⟨w.heap.size + 1, 39, none⟩ (.int .i64 1))) := Lib.hid ((((((((HB.out.setCell (Nat.le_succ _) _).setCell (Nat.le_succ _) _).setCell (Nat.le_succ _) _).setCell (Nat.le_succ _) _).setCell (Nat.le_succ _) _).setCell (Nat.le_succ _) _).setCell (Nat.le_succ _) _).setCell (Nat.le_succ _) _)
      clear HZ HB HK
      go_upto_region 13 with fail
      generalize ((((((((wr.setCell ⟨w.heap.size + 1, 40, none⟩ (.int .i64 1)).setCell ⟨w.heap.size + 1, 41, none⟩ (.func (.func 93) #[] #[])).setCell ⟨w.heap.size + 1, 42, none⟩ (.func (.func 94) #[] #[])).setCell ⟨w.heap.size + 1, 43, none⟩ (.int .i64 1)).setCell ⟨w.heap.size + 1, 36, none⟩ (.int .i64 3)).setCell ⟨w.heap.size + 1, 37, none⟩ (.func (.func 93) #[] #[])).setCell ⟨w.heap.size + 1, 38, none⟩ (.func (.func 94) #[] #[])).setCell ⟨w.heap.size + 1, 39, none⟩ (.int .i64 1)) = wf at HFIN HZF HBF ⊢
      clear c40 c43 c36 c39 f40 f41 f42 f43 f36 f37 f38 f39 s41 s42 s37 s38
      have hld : (loadVar 99 ⟨w.heap.size + 1, 0, none⟩).run Tryz.prog wf = .ok (.agg shS) wf := run_loadVar_row wf _ _ _ shS (0, 0) _ HFIN.out Tryz.underlying99 rfl (by kernel_rfl)
      have hst : (storeVar 99 ⟨w.heap.size, 0, none⟩ (.agg shS)).run Tryz.prog wf = .ok () (wf.setRow w.heap.size shS) := run_storeVar_row wf _ _ _ shZs shS HZF.out (by kernel_rfl) (by kernel_rfl) (by kernel_rfl)
      have hrow : (wf.setRow w.heap.size shS).heap[w.heap.size]? = some (.cells shS 99 (0, 0)) := setRow_heap wf _ shZs _ _ _ HZF.out
      have HROW := Lib.hid hrow
      clear hrow
      go_wp2_with (first
        | (refine wpl_loadv rfl (.tmp 1) 99 rfl _ rfl _ hld ?_)
        | (refine wpl_storev rfl (.tmp 0) (.tmp 32) 99 rfl _ rfl _ rfl hst ?_))
      refine bodyPost_ret (v := .agg shS) ?_ rfl ⟨rfl, HBF.out.trans ⟨rfl, rfl, rfl, by simp [World.setRow], fun i hi => setRow_other wf w.heap.size i _ (by omega)⟩⟩
      refine results_cell_row (fn := Tryz.f56) rfl _ _ w.heap.size 99 shS (0, 0) _ ?_ HROW.out Tryz.underlying99 rfl (by kernel_rfl)
      rfl
end Go.Proofs.YtfoifdoaleaekaaGreat

namespace Go.Proofs.YtfoifdoaleaekaaGreat
open Go.Acc
inductive Tr where
  | mk (k n : Int) (u : Nat) (s : List UInt8) (ks : List (List UInt8)) (l : List Tr)
namespace Tr
def k : Tr → Int | .mk k _ _ _ _ _ => k
def n : Tr → Int | .mk _ n _ _ _ _ => n
def u : Tr → Nat | .mk _ _ u _ _ _ => u
def s : Tr → List UInt8 | .mk _ _ _ s _ _ => s
def ks : Tr → List (List UInt8) | .mk _ _ _ _ ks _ => ks
def l : Tr → List Tr | .mk _ _ _ _ _ l => l
end Tr
structure Bv where
  t : Nat
  w : Nat
  n : Nat
structure Bd where
  b : List UInt8
  s : List Bv
  keys : List (List UInt8 × Nat)
  texts : List (List UInt8 × Nat)
  lists : List (List UInt8 × Nat)
  names : List (Nat × List UInt8)
  vals : List Bv
def bWidth (u : Nat) : Nat := if u < 256 then 1 else if u < 65536 then 2 else if u < 4294967296 then 4 else 8
def bWidthI (n : Int) : Nat := if -128 ≤ n ∧ n < 128 then 1 else if -32768 ≤ n ∧ n < 32768 then 2 else if -2147483648 ≤ n ∧ n < 2147483648 then 4 else 8
def bits (n : Int) : Nat := (n % 18446744073709551616).toNat
def padN (w n : Nat) : Nat := (w - n % w) % w
def alignB (w : Nat) (l : List UInt8) : List UInt8 := l ++ List.replicate (padN w l.length) 0
def inl (t : Nat) : Bool := inlineT t
def upN (n w : Nat) : Nat := (n + w - 1) / w * w
def fitsV (v : Bv) (a i w : Nat) : Bool := if inl v.t = true then decide (v.w ≤ w) else decide (v.n ≤ a ∧ bWidth (upN a w + i * w - v.n) ≤ w)
def leastW (f : Nat → Bool) : Nat := if f 1 = true then 1 else if f 2 = true then 2 else if f 4 = true then 4 else if f 8 = true then 8 else 0
def fitsL (a w : Nat) : Nat → List Bv → Bool
  | _, [] => true
  | i, v :: r => fitsV v a i w && fitsL a w (i + 1) r
def fitK (a w : Nat) : Option Bv → Bool
  | none => true
  | some k => fitsV k a 0 w
def fitF (a ahead : Nat) (k : Option Bv) (l : List Bv) (w : Nat) : Bool := (decide (ahead = 0) || decide (bWidth l.length ≤ w)) && fitK a w k && fitsL a w ahead l
def fitAll (a ahead : Nat) (k : Option Bv) (l : List Bv) : Nat := leastW (fitF a ahead k l)
def elemN (w a : Nat) (v : Bv) : Nat := if inl v.t = true then v.n % 2 ^ (8 * w) else a - v.n
def elemsB (w : Nat) : List UInt8 → List Bv → List UInt8
  | l, [] => l
  | l, v :: r => elemsB w (l ++ leBytes w (elemN w l.length v)) r
def bCode (w : Nat) : Nat := if w = 1 then 0 else if w = 2 then 1 else if w = 4 then 2 else 3
def bTag (w : Nat) (v : Bv) : UInt8 := UInt8.ofNat (4 * v.t + bCode (if inl v.t = true then w else v.w))
def bVec (t : Nat) (len tags : Bool) (l : List Bv) (b : List UInt8) : List UInt8 × Bv :=
  let w := fitAll b.length (if len = true then 1 else 0) none l
  let c := alignB w b ++ (if len = true then leBytes w l.length else [])
  (elemsB w c l ++ (if tags = true then l.map (bTag w) else []), ⟨t, w, c.length⟩)
def mapB (k : Bv) (l : List Bv) (b : List UInt8) : List UInt8 × Bv :=
  let w := fitAll b.length 3 (some k) l
  let a := alignB w b
  let c := a ++ leBytes w (a.length - k.n) ++ leBytes w k.w ++ leBytes w l.length
  (elemsB w c l ++ l.map (bTag w), ⟨9, w, c.length⟩)
def getP (l : List (List UInt8 × Nat)) (k : List UInt8) : Option Nat := (l.find? fun x => x.1 == k).map (·.2)
def putP (l : List (List UInt8 × Nat)) (k : List UInt8) (a : Nat) : List (List UInt8 × Nat) := if (getP l k).isSome = true then l else l ++ [(k, a)]
def onF (f b : Nat) : Bool := decide (f / b % 2 = 1)
def Bd.push (b : Bd) (v : Bv) : Bd := { b with s := b.s ++ [v] }
def Bd.put (f : Nat) (s : List UInt8) (b : Bd) : Bd × Bv :=
  match (if onF f 1 = true then getP b.keys s else none) with
  | some a => (b, ⟨4, 1, a⟩)
  | none => ({ b with b := b.b ++ s ++ [0], keys := putP b.keys s b.b.length, names := (b.b.length, s) :: b.names }, ⟨4, 1, b.b.length⟩)
def Bd.key (f : Nat) (s : List UInt8) (b : Bd) : Bd := let x := b.put f s; x.1.push x.2
def Bd.puts (f : Nat) : List (List UInt8) → Bd → Bd × List Bv
  | [], b => (b, [])
  | s :: r, b => let x := b.put f s; let y := Bd.puts f r x.1; (y.1, x.2 :: y.2)
def Bd.apart (t : Nat) (w n : Nat) (b : Bd) : Bd :=
  let c := alignB w b.b
  { b with b := c ++ leBytes w (n % 2 ^ (8 * w)), s := b.s ++ [⟨t, w, c.length⟩] }
def Bd.blob (s : List UInt8) (b : Bd) : Bd :=
  let w := bWidth s.length
  let c := alignB w b.b ++ leBytes w s.length
  { b with b := c ++ s, s := b.s ++ [⟨25, w, c.length⟩] }
def Bd.str (f : Nat) (s : List UInt8) (b : Bd) : Bd :=
  let w := bWidth s.length
  match (if onF f 2 = true then getP b.texts s else none) with
  | some a => b.push ⟨5, w, a⟩
  | none =>
    let c := alignB w b.b ++ leBytes w s.length
    { b with b := c ++ s ++ [0], s := b.s ++ [⟨5, w, c.length⟩], texts := putP b.texts s c.length }
def Bd.vec (t : Nat) (len tags : Bool) (l : List Bv) (b : Bd) : Bd :=
  let x := bVec t len tags l b.b
  { b with b := x.1, s := b.s ++ [x.2] }
def Bd.endVec (start : Nat) (b : Bd) : Bd := Bd.vec 10 true true (b.s.drop start) { b with s := b.s.take start }
def evens : List Bv → List Bv
  | [] => []
  | [v] => [v]
  | v :: _ :: r => v :: evens r
def odds (l : List Bv) : List Bv := evens l.tail
def Bd.endMap (f : Nat) (keys : List (List UInt8)) (start : Nat) (b : Bd) : Bd :=
  let vs := b.s.drop start
  let c := { b with s := b.s.take start }
  let list := keys.flatMap fun s => s ++ [0]
  match (if onF f 4 = true then getP c.lists list else none) with
  | some i => let x := mapB (c.vals.getD i ⟨0, 0, 0⟩) (odds vs) c.b; { c with b := x.1, s := c.s ++ [x.2] }
  | none =>
    let y := bVec 14 true false (evens vs) c.b
    let x := mapB y.2 (odds vs) y.1
    { c with b := x.1, s := c.s ++ [x.2], vals := c.vals ++ [y.2], lists := putP c.lists list c.vals.length }
def numV (n : Int) : Bv := ⟨1, bWidthI n, bits n⟩
def unsV (u : Nat) : Bv := ⟨2, bWidth u, u⟩
def truthV (n : Int) : Bv := ⟨26, 1, if n = 1 then 1 else 0⟩
def Bd.leaf (f : Nat) (k n : Int) (u : Nat) (s : List UInt8) (b : Bd) : Bd :=
  if k = 1 then b.push ⟨0, 1, 0⟩
  else if k = 2 then b.push (truthV n)
  else if k = 3 then b.push (numV n)
  else if k = 4 then b.push (unsV u)
  else if k = 5 then b.key f s
  else if k = 6 then b.str f s
  else if k = 7 then b.blob s
  else if k = 8 then b.apart 6 (bWidthI n) (bits n)
  else if k = 9 then b.apart 7 (bWidth u) u
  else b
def Bd.flat (f : Nat) (k : Int) (l : List Tr) (b : Bd) : Bd :=
  if k = 11 then b.vec 11 true false (l.map fun t => numV t.n)
  else if k = 12 then b.vec 12 true false (l.map fun t => unsV t.u)
  else if k = 14 then b.vec 36 true false (l.map fun t => truthV t.n)
  else if k = 13 then let x := b.puts f (l.map Tr.s); x.1.vec 14 true false x.2
  else if k = 15 then b.vec (10 + 3 * l.length) false false (l.map fun t => numV t.n)
  else b.vec (11 + 3 * l.length) false false (l.map fun t => unsV t.u)
mutual
/-- The calls for a node of a valid tree whose maps are sorted. -/
def Bd.calls (f : Nat) : Tr → Bd → Bd
  | .mk k n u s ks l, b =>
    if k = 10 then (Bd.callsL f l b).endVec b.s.length
    else if k = 17 then (Bd.callsM f ks l b).endMap f ks b.s.length
    else if k ≤ 9 then b.leaf f k n u s
    else b.flat f k l
def Bd.callsL (f : Nat) : List Tr → Bd → Bd
  | [], b => b
  | t :: r, b => Bd.callsL f r (Bd.calls f t b)
def Bd.callsM (f : Nat) : List (List UInt8) → List Tr → Bd → Bd
  | _, [], b => b
  | ks, t :: r, b => Bd.callsM f ks.tail r (Bd.calls f t (b.key f (ks.headD [])))
end
def Bd.new : Bd := ⟨[], [], [], [], [], [], []⟩
def Bd.finish (b : Bd) : List UInt8 :=
  match b.s with
  | [v] =>
    let w := leastW (fitsV v b.b.length 0)
    let c := alignB w b.b
    c ++ leBytes w (elemN w c.length v) ++ [bTag w v, UInt8.ofNat w]
  | _ => []
def bBuild (f : Nat) (t : Tr) : List UInt8 := (Bd.calls f t Bd.new).finish
end Go.Proofs.YtfoifdoaleaekaaGreat

namespace Go.Proofs.YtfoifdoaleaekaaGreat
open Go.Acc
def At (l : List UInt8) (a : Nat) (m : List UInt8) : Prop := ∃ p q, l = p ++ m ++ q ∧ p.length = a
theorem At.app {l : List UInt8} {a : Nat} {m : List UInt8} (h : At l a m) (x : List UInt8) : At (l ++ x) a m := by
  obtain ⟨p, q, rfl, rfl⟩ := h
  exact ⟨p, q ++ x, by simp, rfl⟩
theorem At.ahead {l : List UInt8} {a : Nat} {m : List UInt8} (h : At l a m) (x : List UInt8) : At (x ++ l) (x.length + a) m := by
  obtain ⟨p, q, rfl, rfl⟩ := h
  exact ⟨x ++ p, q, by simp, by simp⟩
theorem At.last (l m : List UInt8) : At (l ++ m) l.length m := ⟨l, [], by simp, rfl⟩
theorem At.left {l : List UInt8} {a : Nat} {m m' : List UInt8} (h : At l a (m ++ m')) : At l a m := by
  obtain ⟨p, q, rfl, rfl⟩ := h
  exact ⟨p, m' ++ q, by simp, rfl⟩
theorem At.le {l : List UInt8} {a : Nat} {m : List UInt8} (h : At l a m) : a + m.length ≤ l.length := by
  obtain ⟨p, q, rfl, rfl⟩ := h
  simp
theorem At.take {l : List UInt8} {a : Nat} {m : List UInt8} (h : At l a m) : (l.drop a).take m.length = m := by
  obtain ⟨p, q, rfl, rfl⟩ := h
  simp
theorem At.get {l : List UInt8} {a i : Nat} {m : List UInt8} (h : At l a m) (hi : i < m.length) : l[a + i]? = m[i]? := by
  obtain ⟨p, q, rfl, rfl⟩ := h
  rw [List.append_assoc, List.getElem?_append_right (by omega), List.getElem?_append_left (by omega)]
  congr 1
  omega
theorem At.load {l : List UInt8} {a w u : Nat} (h : At l a (leBytes w u)) (hw : isW w = true) : loadU l a w = leVal (leBytes w u) := by
  have h1 := h.le
  have h2 := h.take
  rw [leBytes_length] at h1 h2
  have h3 : (0 : Int) ≤ a ∧ (a : Int) + w ≤ l.length := by omega
  simp only [loadU, hw, h3, Int.toNat_natCast, h2, and_self, if_true]
theorem elemsB_app (w : Nat) : ∀ (vs : List Bv) (l : List UInt8), ∃ m, elemsB w l vs = l ++ m ∧ m.length = w * vs.length
  | [], l => ⟨[], by simp [elemsB]⟩
  | v :: r, l => by
    obtain ⟨m, e, h⟩ := elemsB_app w r (l ++ leBytes w (elemN w l.length v))
    refine ⟨leBytes w (elemN w l.length v) ++ m, by rw [elemsB, e, List.append_assoc], ?_⟩
    rw [List.length_append, leBytes_length, h, List.length_cons, Nat.mul_add, Nat.mul_one, Nat.add_comm]
theorem elemsB_at (w : Nat) : ∀ (vs : List Bv) (l : List UInt8) (i : Nat) (v : Bv), vs[i]? = some v → At (elemsB w l vs) (l.length + i * w) (leBytes w (elemN w (l.length + i * w) v))
  | [], _, _, _, h => by simp at h
  | x :: r, l, 0, v, h => by
    have e : x = v := by simpa using h
    subst e
    obtain ⟨m, e, _⟩ := elemsB_app w r (l ++ leBytes w (elemN w l.length x))
    rw [elemsB, e, Nat.zero_mul, Nat.add_zero]
    exact (At.last _ _).app m
  | x :: r, l, i + 1, v, h => by
    have h2 := elemsB_at w r (l ++ leBytes w (elemN w l.length x)) i v (by simpa using h)
    have e : (l ++ leBytes w (elemN w l.length x)).length + i * w = l.length + (i + 1) * w := by
      rw [List.length_append, leBytes_length, Nat.succ_mul]
      omega
    rw [e] at h2
    exact h2
theorem vecB_app (t : Nat) (len tags : Bool) (l : List Bv) (b : List UInt8) : ∃ m, (bVec t len tags l b).1 = b ++ m := by
  obtain ⟨w, hw⟩ : ∃ w, fitAll b.length (if len = true then 1 else 0) none l = w := ⟨_, rfl⟩
  simp only [bVec, hw]
  obtain ⟨m, e, _⟩ := elemsB_app w l (alignB w b ++ (if len = true then leBytes w l.length else []))
  exact ⟨_, by rw [e, alignB, List.append_assoc, List.append_assoc, List.append_assoc]⟩
theorem mapB_app (k : Bv) (l : List Bv) (b : List UInt8) : ∃ m, (mapB k l b).1 = b ++ m := by
  obtain ⟨w, hw⟩ : ∃ w, fitAll b.length 3 (some k) l = w := ⟨_, rfl⟩
  simp only [mapB, hw]
  obtain ⟨m, e, _⟩ := elemsB_app w l (alignB w b ++ leBytes w ((alignB w b).length - k.n) ++ leBytes w k.w ++ leBytes w l.length)
  exact ⟨List.replicate (padN w b.length) 0 ++ (leBytes w ((alignB w b).length - k.n) ++ (leBytes w k.w ++ (leBytes w l.length ++ (m ++ l.map (bTag w))))), by rw [e]; simp only [alignB, List.append_assoc]⟩
end Go.Proofs.YtfoifdoaleaekaaGreat
