/-
  Package list: the shapes of the types.
  References, in plain terms: within the bytes, well-formed, target, root, sameness.
  Package ref and its reference: Inside, isWidth, Same.
-/
import Derived.Test.YtejalfjeihlpeaaGreatQ06
import Derived.Deep.WholeRow
import Derived.Deep.DeepCutAuto
namespace Go.Proofs.YtejalfjeihlpeaaGreat
open Go.RowKit Go.Acc
def fnV (F : FuncId) : Value := .func (.func F) #[] #[]
def shZ : List Value := [.int .i64 0, .nilFunc, .nilFunc, .int .i64 0]
/-- The shape of a typed or fixed vector; nothing for other types. -/
def shV (t : Nat) : List Value :=
  if vecT t = true then (if 0 < manyT t then [.int .i64 0, fnV 145, fnV 146, .int .i64 0] else [.int .i64 1, fnV 147, fnV 146, .int .i64 0]) else shZ
def shR (t : Nat) : List Value :=
  if t = 10 then [.int .i64 1, fnV 147, fnV 148, .int .i64 1] else if t = 9 then [.int .i64 3, fnV 147, fnV 148, .int .i64 1] else shV t
def shKr (k t : Nat) : List Value := if t < k then shV t else shZ
theorem shV_len (t : Nat) : (shV t).length = 4 := by unfold shV; split <;> (try split) <;> rfl
theorem shKr_len (k t : Nat) : (shKr k t).length = 4 := by unfold shKr; split; exact shV_len t; rfl
def shK (k : Nat) : Array Value := ((List.range 37).flatMap (shKr k)).toArray
def shS : Array Value := ((List.range 37).flatMap shR).toArray
def shZs : Array Value := ((List.range 37).flatMap fun _ => shZ).toArray
theorem shinfo : (Tryz.prog.info? 153).map (fun i => (i.zero, i.size)) = some (some (Value.agg shZs), 148) := by kernel_rfl
theorem upon_skip_of2 {P : Program} {o : Oper} {a : Act} {next : Act → World → Prop} {Q : Exit → Act → World → Prop} {r : Result Unit} {w' : World} (h : r = .ok () w') (hk : next (a.put o.dst undef) w') :
    o.upon P a next Q (r.andThen fun _ w' => .ok .skip w') := by subst h; exact hk
theorem shK_size (k : Nat) : (shK k).size = 148 := by
  unfold shK
  rw [List.size_toArray, fm_length (shKr_len k), List.length_range]
theorem shK_get {k t i : Nat} (ht : t < 37) (hi : i < 4) : (shK k)[t * 4 + i]? = (shKr k t)[i]? := by
  unfold shK
  rw [List.getElem?_toArray, fm_at (shKr_len k) (List.range 37) t i (by simpa using ht) hi, List.getElem_range]
theorem shK_skip {k : Nat} (h : vecT k = false) : shK (k + 1) = shK k := by
  unfold shK
  congr 1
  have e : shKr (k + 1) = shKr k := by
    funext t
    unfold shKr
    by_cases h1 : t < k
    · rw [if_pos h1, if_pos (by omega)]
    · by_cases h2 : t = k
      · subst h2
        rw [if_pos (by omega), if_neg h1]
        unfold shV
        rw [h]
        rfl
      · rw [if_neg (by omega), if_neg h1]
  rw [e]
theorem shK_set {k : Nat} (hk : k < 37) {a b c d : Value} (h : shV k = [a, b, c, d]) : ((((shK k).setIfInBounds (k * 4) a).setIfInBounds (k * 4 + 1) b).setIfInBounds (k * 4 + 2) c).setIfInBounds (k * 4 + 3) d = shK (k + 1) := by
  apply Array.ext_getElem?
  intro j
  have hs := shK_size k
  by_cases hj : j < 148
  · have hd : j / 4 < 37 := by omega
    have e : j / 4 * 4 + j % 4 = j := by omega
    have h1 := shK_get (k := k) hd (show j % 4 < 4 by omega)
    have h2 := shK_get (k := k + 1) hd (show j % 4 < 4 by omega)
    rw [e] at h1 h2
    rw [h2]
    simp only [Array.getElem?_setIfInBounds, Array.size_setIfInBounds, hs]
    by_cases hkj : j / 4 = k
    · have hkr : shKr (k + 1) (j / 4) = [a, b, c, d] := by rw [hkj]; unfold shKr; rw [if_pos (by omega), h]
      rw [hkr]
      have hm : j % 4 = 0 ∨ j % 4 = 1 ∨ j % 4 = 2 ∨ j % 4 = 3 := by omega
      rcases hm with hm | hm | hm | hm <;> rw [hm]
      · rw [if_neg (by omega), if_neg (by omega), if_neg (by omega), if_pos (by omega), if_pos (by omega)]; rfl
      · rw [if_neg (by omega), if_neg (by omega), if_pos (by omega), if_pos (by omega)]; rfl
      · rw [if_neg (by omega), if_pos (by omega), if_pos (by omega)]; rfl
      · rw [if_pos (by omega), if_pos (by omega)]; rfl
    · rw [if_neg (by omega), if_neg (by omega), if_neg (by omega), if_neg (by omega), h1]
      congr 1
      unfold shKr
      by_cases h1 : j / 4 < k
      · rw [if_pos h1, if_pos (by omega)]
      · rw [if_neg h1, if_neg (by omega)]
  · rw [Array.getElem?_eq_none (by simp [hs]; omega), Array.getElem?_eq_none (by rw [shK_size]; omega)]
theorem wpl_loadv {ops : Array Oper} {rest : List Oper} {o : Oper} {a : Act} {w : World} {Q : Exit → Act → World → Prop} (hgd : o.guard = none) (p : Operand) (ty : TypeId) (ho : o.op = .load ty p) (g : Nat) (hp : a.eval p = .pointer (some ⟨g, 0, none⟩)) (v : Value)
    (h : (loadVar ty ⟨g, 0, none⟩).run Tryz.prog w = .ok v w) (hk : wpList Tryz.prog ops Q rest (a.put o.dst v) w) : wpList Tryz.prog ops Q (o :: rest) a w := by
  refine wpList_plain hgd fun K hK => ?_
  unfold Oper.wp
  simp only [execOp, ho, hp, Instr.loadAt, Instr.sureAddr, Sem.run_bind, Sem.run_pure, Result.andThen_ok, h]
  exact hK _ _ hk
theorem wpl_storev {ops : Array Oper} {rest : List Oper} {o : Oper} {a : Act} {w w' : World} {Q : Exit → Act → World → Prop} (hgd : o.guard = none) (p x : Operand) (ty : TypeId) (ho : o.op = .store ty p x) (g : Nat) (hp : a.eval p = .pointer (some ⟨g, 0, none⟩)) (v : Value) (hx : a.eval x = v)
    (h : (storeVar ty ⟨g, 0, none⟩ v).run Tryz.prog w = .ok () w') (hk : wpList Tryz.prog ops Q rest (a.put o.dst undef) w') : wpList Tryz.prog ops Q (o :: rest) a w := by
  refine wpList_plain hgd fun K hK => ?_
  unfold Oper.wp
  simp only [execOp, ho, hp, hx, Instr.storeAt, Instr.sureAddr, Sem.run_bind, Sem.run_pure, Result.andThen_ok, h]
  exact hK _ _ hk
theorem blk_store {W : World} {g i : Nat} {t : TypeId} {cs : Array Value} {v : Value} (h : Blk W g t cs) (hi : i < cs.size) (h1 : v.oneCell' = true) : (store ⟨g, i, none⟩ v).run Tryz.prog W = .ok () (W.setCell ⟨g, i, none⟩ v) := by
  rw [run_store Tryz.prog W _ v _ h1, h.cell i, Array.getElem?_eq_getElem hi]
  simp [h.frozen i]
set_option maxRecDepth 100000 in
set_option maxHeartbeats 1000000 in
theorem shapes_spec (w : World) : Calls Tryz.prog 125 #[] w fun e w' => e = .returned (.agg shS) ∧ Below w.heap.size w w' := by
  have hz := (zero_of_info shinfo).1
  have hsz : shZs.size = 148 := by kernel_rfl
  go_enter Tryz.func125, Tryz.ntmps125
  go_wp2_with fail
  go_loopw [2, 3, 4, 5, 6] (fun _ _ _ _ i wr => ∃ k : Nat, k ≤ 37 ∧ i = .int .i64 k ∧ Blk wr (w.heap.size + 1) 153 (shK k) ∧ Blk wr w.heap.size 153 shZs ∧ Below w.heap.size w wr) (fun _ _ _ _ i _ => 37 - (intOf i).toNat)
  case atStart => exact ⟨0, by omega, rfl, by rw [show shK 0 = shZs by kernel_rfl]; exact Blk.new_ (by simp) _ _, (Blk.new w _ _).alloc _, ((Below.refl _ _).alloc (Nat.le_refl _) _).alloc (by simp) _⟩
  case round =>
    obtain ⟨k, hk, rfl, hK, hZ, hB⟩ := hrel
    have HK := Lib.hid hK
    have HZ := Lib.hid hZ
    have HB := Lib.hid hB
    clear hK hZ hB hz hsz
    by_cases hlt : k < 37
    · have hk0 : (0 : Int) ≤ k := by omega
      have hk37 : (k : Int) < 37 := by omega
      go_wp2_with fail
      go_at_call 144
      refine (elem_spec k _).mono ?_
      rintro e w1 ⟨rfl, hb⟩
      replace HK := Lib.hid (HK.out.pure hb)
      replace HZ := Lib.hid (HZ.out.pure hb)
      replace HB := Lib.hid (pure_below HB.out hb)
      clear hb
      cases hv : vecT k with
      | false =>
        have HV := Lib.hid hv
        clear hv
        go_wp2
        go_roundw
        case rel => exact ⟨k + 1, by omega, by go_num, by rw [shK_skip HV.out]; exact HK.out, HZ.out, HB.out⟩
        case measure => simp [intOf]; omega
      | true =>
        have c0 : w1.cell? ⟨w.heap.size + 1, k * 4, none⟩ = some (.int .i64 0) := (HK.out.cell (k * 4)).trans (by rw [show k * 4 = k * 4 + 0 by omega, shK_get hlt (by omega)]; unfold shKr; rw [if_neg (by omega)]; rfl)
        have c1 : w1.cell? ⟨w.heap.size + 1, k * 4 + 1, none⟩ = some .nilFunc := (HK.out.cell (k * 4 + 1)).trans (by rw [shK_get hlt (by omega)]; unfold shKr; rw [if_neg (by omega)]; rfl)
        have c2 : w1.cell? ⟨w.heap.size + 1, k * 4 + 2, none⟩ = some .nilFunc := (HK.out.cell (k * 4 + 2)).trans (by rw [shK_get hlt (by omega)]; unfold shKr; rw [if_neg (by omega)]; rfl)
        have c3 : w1.cell? ⟨w.heap.size + 1, k * 4 + 3, none⟩ = some (.int .i64 0) := (HK.out.cell (k * 4 + 3)).trans (by rw [shK_get hlt (by omega)]; unfold shKr; rw [if_neg (by omega)]; rfl)
        have f0 := HK.out.frozen (k * 4)
        have f1 := HK.out.frozen (k * 4 + 1)
        have f2 := HK.out.frozen (k * 4 + 2)
        have f3 := HK.out.frozen (k * 4 + 3)
        by_cases hm : 0 < manyT k
        · have hvr : shV k = [.int .i64 0, .func (.func 145) #[] #[], .func (.func 146) #[] #[], .int .i64 0] := by unfold shV; rw [if_pos hv, if_pos hm]; rfl
          have HV := Lib.hid hvr
          have hs1 := blk_store (i := k * 4 + 1) (v := .func (.func 145) #[] #[]) (HK.out.set_ (k * 4) (.int .i64 0)) (by simp [shK_size]; omega) rfl
          have hs2 := blk_store (i := k * 4 + 2) (v := .func (.func 146) #[] #[]) ((HK.out.set_ (k * 4) (.int .i64 0)).set_ (k * 4 + 1) (.func (.func 145) #[] #[])) (by simp [shK_size]; omega) rfl
          clear hv hvr
          go_wp2
          go_roundw
          case rel => exact ⟨k + 1, by omega, by go_num, by rw [← shK_set hlt HV.out]; exact (((HK.out.set_ _ _).set_ _ _).set_ _ _).set_ _ _, (((HZ.out.far (by simp) _).far (by simp) _).far (by simp) _).far (by simp) _, (((HB.out.setCell (Nat.le_succ _) _).setCell (Nat.le_succ _) _).setCell (Nat.le_succ _) _).setCell (Nat.le_succ _) _⟩
          case measure => simp [intOf]; omega
        · have hvr : shV k = [.int .i64 1, .func (.func 147) #[] #[], .func (.func 146) #[] #[], .int .i64 0] := by unfold shV; rw [if_pos hv, if_neg hm]; rfl
          have HV := Lib.hid hvr
          have hs1 := blk_store (i := k * 4 + 1) (v := .func (.func 147) #[] #[]) (HK.out.set_ (k * 4) (.int .i64 1)) (by simp [shK_size]; omega) rfl
          have hs2 := blk_store (i := k * 4 + 2) (v := .func (.func 146) #[] #[]) ((HK.out.set_ (k * 4) (.int .i64 1)).set_ (k * 4 + 1) (.func (.func 147) #[] #[])) (by simp [shK_size]; omega) rfl
          clear hv hvr
          go_wp2
          go_roundw
          case rel => exact ⟨k + 1, by omega, by go_num, by rw [← shK_set hlt HV.out]; exact (((HK.out.set_ _ _).set_ _ _).set_ _ _).set_ _ _, (((HZ.out.far (by simp) _).far (by simp) _).far (by simp) _).far (by simp) _, (((HB.out.setCell (Nat.le_succ _) _).setCell (Nat.le_succ _) _).setCell (Nat.le_succ _) _).setCell (Nat.le_succ _) _⟩
          case measure => simp [intOf]; omega
    · obtain rfl : k = 37 := by omega
      have hcs : (shK 37).size = 148 := shK_size 37
      have c40 : wr.cell? ⟨w.heap.size + 1, 40, none⟩ = some (.int .i64 0) := (HK.out.cell 40).trans (by kernel_rfl)
      have c43 : wr.cell? ⟨w.heap.size + 1, 43, none⟩ = some (.int .i64 0) := (HK.out.cell 43).trans (by kernel_rfl)
      have c36 : wr.cell? ⟨w.heap.size + 1, 36, none⟩ = some (.int .i64 0) := (HK.out.cell 36).trans (by kernel_rfl)
      have c39 : wr.cell? ⟨w.heap.size + 1, 39, none⟩ = some (.int .i64 0) := (HK.out.cell 39).trans (by kernel_rfl)
      have f40 := HK.out.frozen 40
      have f41 := HK.out.frozen 41
      have f42 := HK.out.frozen 42
      have f43 := HK.out.frozen 43
      have f36 := HK.out.frozen 36
      have f37 := HK.out.frozen 37
      have f38 := HK.out.frozen 38
      have f39 := HK.out.frozen 39
      have HB0 := HK
      have HB1 := Lib.hid (HB0.out.set_ 40 (.int .i64 1))
      have s41 := blk_store (i := 41) (v := (.func (.func 147) #[] #[])) HB1.out (by simp [hcs]) rfl
      have HB2 := Lib.hid (HB1.out.set_ 41 (.func (.func 147) #[] #[]))
      have s42 := blk_store (i := 42) (v := (.func (.func 148) #[] #[])) HB2.out (by simp [hcs]) rfl
      have HB3 := Lib.hid (HB2.out.set_ 42 (.func (.func 148) #[] #[]))
      have HB4 := Lib.hid (HB3.out.set_ 43 (.int .i64 1))
      have HB5 := Lib.hid (HB4.out.set_ 36 (.int .i64 3))
      have s37 := blk_store (i := 37) (v := (.func (.func 147) #[] #[])) HB5.out (by simp [hcs]) rfl
      have HB6 := Lib.hid (HB5.out.set_ 37 (.func (.func 147) #[] #[]))
      have s38 := blk_store (i := 38) (v := (.func (.func 148) #[] #[])) HB6.out (by simp [hcs]) rfl
      have HB7 := Lib.hid (HB6.out.set_ 38 (.func (.func 148) #[] #[]))
      have HB8 := Lib.hid (HB7.out.set_ 39 (.int .i64 1))
      have hfin : Blk ((((((((wr.setCell ⟨w.heap.size + 1, 40, none⟩ (.int .i64 1)).setCell ⟨w.heap.size + 1, 41, none⟩ (.func (.func 147) #[] #[])).setCell ⟨w.heap.size + 1, 42, none⟩ (.func (.func 148) #[] #[])).setCell ⟨w.heap.size + 1, 43, none⟩ (.int .i64 1)).setCell ⟨w.heap.size + 1, 36, none⟩ (.int .i64 3)).setCell ⟨w.heap.size + 1, 37, none⟩ (.func (.func 147) #[] #[])).setCell ⟨w.heap.size + 1, 38, none⟩ (.func (.func 148) #[] #[])).setCell ⟨w.heap.size + 1, 39, none⟩ (.int .i64 1)) (w.heap.size + 1) 153 shS := by
        have := HB8.out
        rw [show ((((((((shK 37).setIfInBounds 40 (.int .i64 1)).setIfInBounds 41 (.func (.func 147) #[] #[])).setIfInBounds 42 (.func (.func 148) #[] #[])).setIfInBounds 43 (.int .i64 1)).setIfInBounds 36 (.int .i64 3)).setIfInBounds 37 (.func (.func 147) #[] #[])).setIfInBounds 38 (.func (.func 148) #[] #[])).setIfInBounds 39 (.int .i64 1) = shS by kernel_rfl] at this
        exact this
      have HFIN := Lib.hid hfin
      clear HB0 HB1 HB2 HB3 HB4 HB5 HB6 HB7 HB8 hfin hcs
      have HZF : Hid (Blk ((((((((wr.setCell ⟨w.heap.size + 1, 40, none⟩ (.int .i64 1)).setCell ⟨w.heap.size + 1, 41, none⟩ (.func (.func 147) #[] #[])).setCell ⟨w.heap.size + 1, 42, none⟩ (.func (.func 148) #[] #[])).setCell ⟨w.heap.size + 1, 43, none⟩ (.int .i64 1)).setCell ⟨w.heap.size + 1, 36, none⟩ (.int .i64 3)).setCell ⟨w.heap.size + 1, 37, none⟩ (.func (.func 147) #[] #[])).setCell ⟨w.heap.size + 1, 38, none⟩ (.func (.func 148) #[] #[])).setCell ⟨w.heap.size + 1, 39, none⟩ (.int .i64 1)) w.heap.size 153 shZs) := Lib.hid ((((((((HZ.out.far (by simp) _).far (by simp) _).far (by simp) _).far (by simp) _).far (by simp) _).far (by simp) _).far (by simp) _).far (by simp) _)
      have HBF : Hid (Below w.heap.size w ((((((((wr.setCell ⟨w.heap.size + 1, 40, none⟩ (.int .i64 1)).setCell ⟨w.heap.size + 1, 41, none⟩ (.func (.func 147) #[] #[])).setCell ⟨w.heap.size + 1, 42, none⟩ (.func (.func 148) #[] #[])).setCell ⟨w.heap.size + 1, 43, none⟩ (.int .i64 1)).setCell ⟨w.heap.size + 1, 36, none⟩ (.int .i64 3)).setCell ⟨w.heap.size + 1, 37, none⟩ (.func (.func 147) #[] #[])).setCell ⟨w.heap.size + 1, 38, none⟩ (.func (.func 148) #[] #[])).setCell ⟨w.heap.size + 1, 39, none⟩ (.int .i64 1))) := Lib.hid ((((((((HB.out.setCell (Nat.le_succ _) _).setCell (Nat.le_succ _) _).setCell (Nat.le_succ _) _).setCell (Nat.le_succ _) _).setCell (Nat.le_succ _) _).setCell (Nat.le_succ _) _).setCell (Nat.le_succ _) _).setCell (Nat.le_succ _) _)
      clear HZ HB HK
      go_upto_region 13 with fail
      generalize ((((((((wr.setCell ⟨w.heap.size + 1, 40, none⟩ (.int .i64 1)).setCell ⟨w.heap.size + 1, 41, none⟩ (.func (.func 147) #[] #[])).setCell ⟨w.heap.size + 1, 42, none⟩ (.func (.func 148) #[] #[])).setCell ⟨w.heap.size + 1, 43, none⟩ (.int .i64 1)).setCell ⟨w.heap.size + 1, 36, none⟩ (.int .i64 3)).setCell ⟨w.heap.size + 1, 37, none⟩ (.func (.func 147) #[] #[])).setCell ⟨w.heap.size + 1, 38, none⟩ (.func (.func 148) #[] #[])).setCell ⟨w.heap.size + 1, 39, none⟩ (.int .i64 1)) = wf at HFIN HZF HBF ⊢
      clear c40 c43 c36 c39 f40 f41 f42 f43 f36 f37 f38 f39 s41 s42 s37 s38
      have hld : (loadVar 153 ⟨w.heap.size + 1, 0, none⟩).run Tryz.prog wf = .ok (.agg shS) wf := run_loadVar_row wf _ _ _ shS (0, 0) _ HFIN.out Tryz.underlying153 rfl (by kernel_rfl)
      have hst : (storeVar 153 ⟨w.heap.size, 0, none⟩ (.agg shS)).run Tryz.prog wf = .ok () (wf.setRow w.heap.size shS) := run_storeVar_row wf _ _ _ shZs shS HZF.out (by kernel_rfl) (by kernel_rfl) (by kernel_rfl)
      have hrow : (wf.setRow w.heap.size shS).heap[w.heap.size]? = some (.cells shS 153 (0, 0)) := setRow_heap wf _ shZs _ _ _ HZF.out
      have HROW := Lib.hid hrow
      clear hrow
      go_wp2_with (first
        | (refine wpl_loadv rfl (.tmp 1) 153 rfl _ rfl _ hld ?_)
        | (refine wpl_storev rfl (.tmp 0) (.tmp 32) 153 rfl _ rfl _ rfl hst ?_))
      refine bodyPost_ret (v := .agg shS) ?_ rfl ⟨rfl, HBF.out.trans ⟨rfl, rfl, rfl, by simp [World.setRow], fun i hi => setRow_other wf w.heap.size i _ (by omega)⟩⟩
      refine results_cell_row (fn := Tryz.f125) rfl _ _ w.heap.size 153 shS (0, 0) _ ?_ HROW.out Tryz.underlying153 rfl (by kernel_rfl)
      rfl
end Go.Proofs.YtejalfjeihlpeaaGreat

namespace Go.Proofs.YtejalfjeihlpeaaGreat
open Go.RowKit Go.Acc
def inB (n : Nat) (a m : Int) : Bool := decide (0 ≤ a ∧ 0 ≤ m ∧ a + m ≤ n)
theorem inB_iff {n : Nat} {a m : Int} : inB n a m = true ↔ 0 ≤ a ∧ 0 ≤ m ∧ a + m ≤ n := by simp [inB]
theorem inB_no {n : Nat} {a m : Int} (h : inB n a m = false) : ¬ (0 ≤ a ∧ 0 ≤ m ∧ a + m ≤ n) := by rw [← inB_iff, h]; simp
def formed (q t v : Int) : Bool := legalT t && isW q && isW v
def mayE (n : Nat) (p q t v : Int) : Int := if formed q t v = true then (if inB n p q = true then 0 else 6) else 2
theorem mayE_ok {n : Nat} {p q t v : Int} : mayE n p q t v = 0 ↔ formed q t v = true ∧ inB n p q = true := by
  unfold mayE
  cases formed q t v <;> cases inB n p q <;> simp
theorem formed_iff {q t v : Int} : formed q t v = true ↔ legalT t = true ∧ isW q = true ∧ isW v = true := by
  simp [formed, and_assoc]
def tgtE (l : List UInt8) (p q t v : Int) : Int :=
  if mayE l.length p q t v = 0 then (if inlineT t = true then 60 else if p < (loadU l p q : Int) then 211 else 0) else mayE l.length p q t v
def tgt (l : List UInt8) (p q t v : Int) : Int := if tgtE l p q t v = 0 then p - loadU l p q else 0
theorem may_load {l : List UInt8} {p q t v : Int} (h : mayE l.length p q t v = 0) : loadE l.length p q = 0 := by
  obtain ⟨h1, h2⟩ := mayE_ok.1 h
  have h1 := formed_iff.1 h1
  have h2 := inB_iff.1 h2
  unfold loadE
  rw [if_pos h1.2.1, if_pos ⟨h2.1, h2.2.2⟩]
theorem tgtE_may {l : List UInt8} {p q t v : Int} (h : mayE l.length p q t v ≠ 0) : tgtE l p q t v = mayE l.length p q t v := if_neg h
theorem tgt_may {l : List UInt8} {p q t v : Int} (h : mayE l.length p q t v ≠ 0) : tgt l p q t v = 0 := by
  unfold tgt
  rw [tgtE_may h, if_neg h]
theorem tgtE_inl {l : List UInt8} {p q t v : Int} (h : mayE l.length p q t v = 0) (hi : inlineT t = true) : tgtE l p q t v = 60 := by
  unfold tgtE
  rw [if_pos h, if_pos hi]
theorem tgt_inl {l : List UInt8} {p q t v : Int} (h : mayE l.length p q t v = 0) (hi : inlineT t = true) : tgt l p q t v = 0 := by
  unfold tgt
  rw [tgtE_inl h hi]
  rfl
theorem tgtE_off {l : List UInt8} {p q t v : Int} (h : mayE l.length p q t v = 0) (hi : inlineT t = false) (hu : p < (loadU l p q : Int)) : tgtE l p q t v = 211 := by
  unfold tgtE
  rw [if_pos h, if_neg (by simp [hi]), if_pos hu]
theorem tgt_off {l : List UInt8} {p q t v : Int} (h : mayE l.length p q t v = 0) (hi : inlineT t = false) (hu : p < (loadU l p q : Int)) : tgt l p q t v = 0 := by
  unfold tgt
  rw [tgtE_off h hi hu]
  rfl
theorem tgtE_ok {l : List UInt8} {p q t v : Int} (h : mayE l.length p q t v = 0) (hi : inlineT t = false) (hu : ¬ p < (loadU l p q : Int)) : tgtE l p q t v = 0 := by
  unfold tgtE
  rw [if_pos h, if_neg (by simp [hi]), if_neg hu]
theorem tgt_ok {l : List UInt8} {p q t v : Int} (h : mayE l.length p q t v = 0) (hi : inlineT t = false) (hu : ¬ p < (loadU l p q : Int)) : tgt l p q t v = p - loadU l p q := by
  unfold tgt
  rw [tgtE_ok h hi hu]
  rfl
def sameR (p q t v p' q' t' v' : Int) : Bool := decide (p = p' ∧ q = q' ∧ t = t' ∧ (inlineT t = true ∨ t = 4 ∨ v = v'))
/-- The error of the root, and its four numbers. -/
def rootE (l : List UInt8) : Int :=
  if l.length < 3 ∨ isW ((l.getD (l.length - 1) 0).toNat : Int) = false then 210
  else if unE (l.getD (l.length - 2) 0) ≠ 0 then unE (l.getD (l.length - 2) 0)
  else if (l.length : Int) - 2 - (l.getD (l.length - 1) 0).toNat < 0 ∨ ((l.length : Int) - 2 - (l.getD (l.length - 1) 0).toNat) % (l.getD (l.length - 1) 0).toNat ≠ 0 then 210 else 0
def rootR (l : List UInt8) : Int × Int × Int × Int :=
  if rootE l = 0 then ((l.length : Int) - 2 - (l.getD (l.length - 1) 0).toNat, (l.getD (l.length - 1) 0).toNat, unT (l.getD (l.length - 2) 0), unW (l.getD (l.length - 2) 0)) else (0, 0, 0, 0)
end Go.Proofs.YtejalfjeihlpeaaGreat

namespace Go.Proofs.YtejalfjeihlpeaaGreat
open Go.RowKit Go.Acc
def codeE (x : Int) : Int := if isW x = true then 0 else 2
def codeW (x : Int) : Int := if x = 2 then 1 else if x = 4 then 2 else if x = 8 then 3 else 0
set_option maxHeartbeats 1000000 in
theorem code_spec (x : Int) (w : World) : Calls Tryz.prog 19 #[.int .i64 x] w fun e w' => e = .returned (.tuple #[.int .i64 (codeW x), .int .i64 (codeE x)]) ∧ w = w' := by
  cases hw : isW x with
  | true =>
    have hx := isW_iff.1 hw
    clear hw
    rcases hx with rfl | rfl | rfl | rfl
    all_goals
      go_enter Tryz.func19, Tryz.ntmps19
      go_wp2
      refine wp_loop_rounds 5 ?_
      repeat (rw [rounds_succ]; go_wp2)
      go_ret2
      exact ⟨rfl, rfl⟩
  | false =>
    have hx := isW_no.1 hw
    have H1 := Lib.hid (show codeW x = 0 by unfold codeW; rw [if_neg hx.2.1, if_neg hx.2.2.1, if_neg hx.2.2.2])
    have H2 := Lib.hid (show codeE x = 2 by unfold codeE; rw [hw]; rfl)
    rw [H1.out, H2.out]
    have e1 : (x == 1) = false := beq_eq_false_iff_ne.mpr hx.1
    have e2 : (x == 2) = false := beq_eq_false_iff_ne.mpr hx.2.1
    have e4 : (x == 4) = false := beq_eq_false_iff_ne.mpr hx.2.2.1
    have e8 : (x == 8) = false := beq_eq_false_iff_ne.mpr hx.2.2.2
    clear hx hw
    go_enter Tryz.func19, Tryz.ntmps19
    go_wp2
    refine wp_loop_rounds 5 ?_
    repeat (rw [rounds_succ]; go_wp2)
    go_ret2
    exact ⟨rfl, rfl⟩
theorem codeE_no {x : Int} (h : isW x = false) : codeE x = 2 := by unfold codeE; rw [h]; rfl
theorem codeE_yes {x : Int} (h : isW x = true) : codeE x = 0 := by unfold codeE; rw [h]; rfl
set_option maxHeartbeats 400000 in
theorem iswidth_spec (x : Int) (w : World) : Calls Tryz.prog 49 #[.int .i64 x] w fun e w' => e = .returned (.bool (isW x)) ∧ w = w' := by
  cases hw : isW x with
  | true =>
    have H := Lib.hid (codeE_yes hw)
    clear hw
    go_enter Tryz.func49, Tryz.ntmps49
    go_wp2_with fail
    go_at_call 19
    refine (code_spec _ _).mono ?_
    rw [H.out]
    rintro e w1 ⟨rfl, rfl⟩
    go_wp2
    go_ret
    exact ⟨rfl, rfl⟩
  | false =>
    have H := Lib.hid (codeE_no hw)
    clear hw
    go_enter Tryz.func49, Tryz.ntmps49
    go_wp2_with fail
    go_at_call 19
    refine (code_spec _ _).mono ?_
    rw [H.out]
    rintro e w1 ⟨rfl, rfl⟩
    go_wp2
    go_ret
    exact ⟨rfl, rfl⟩
set_option maxHeartbeats 1000000 in
theorem inside_spec (A : Option Addr) (n c : Nat) (a m : Int) (w : World) (hn : n ≤ 9223372036854775807) : Calls Tryz.prog 119 #[.slice A n c, .int .i64 a, .int .i64 m] w fun e w' => e = .returned (.bool (inB n a m)) ∧ w = w' := by
  by_cases h1 : 0 ≤ a
  · by_cases h2 : 0 ≤ m
    · by_cases h3 : a ≤ n
      · have ha : (0 : Int) ≤ (n : Int) - a := by omega
        by_cases h4 : m ≤ (n : Int) - a
        · have H := Lib.hid (show inB n a m = true from inB_iff.2 ⟨h1, h2, by omega⟩)
          go_enter Tryz.func119, Tryz.ntmps119
          go_wp2
          go_ret
          exact ⟨ret_bool H.out.symm, rfl⟩
        · have H := Lib.hid (show inB n a m = false from decide_eq_false (fun h => h4 (by omega)))
          have hd : decide (m ≤ (n : Int) - a) = false := decide_eq_false h4
          go_enter Tryz.func119, Tryz.ntmps119
          go_wp2
          go_ret
          exact ⟨ret_bool H.out.symm, rfl⟩
      · have H := Lib.hid (show inB n a m = false from decide_eq_false (fun h => h3 (by omega)))
        have hd : decide (a ≤ (n : Int)) = false := decide_eq_false h3
        go_enter Tryz.func119, Tryz.ntmps119
        go_wp2
        go_ret
        exact ⟨ret_bool H.out.symm, rfl⟩
    · have H := Lib.hid (show inB n a m = false from decide_eq_false (fun h => h2 (by omega)))
      have hd : decide (0 ≤ m) = false := decide_eq_false h2
      go_enter Tryz.func119, Tryz.ntmps119
      go_wp2
      go_ret
      exact ⟨ret_bool H.out.symm, rfl⟩
  · have H := Lib.hid (show inB n a m = false from decide_eq_false (fun h => h1 (by omega)))
    have hd : decide (0 ≤ a) = false := decide_eq_false h1
    go_enter Tryz.func119, Tryz.ntmps119
    go_wp2
    go_ret
    exact ⟨ret_bool H.out.symm, rfl⟩
set_option maxHeartbeats 1000000 in
theorem rinside_spec (A : Option Addr) (n c : Nat) (a m : Int) (w : World) (hn : n ≤ 9223372036854775807) : Calls Tryz.prog 101 #[.slice A n c, .int .i64 a, .int .i64 m] w fun e w' => e = .returned (.bool (inB n a m)) ∧ w = w' := by
  by_cases h1 : 0 ≤ a
  · by_cases h2 : 0 ≤ m
    · by_cases h3 : a ≤ n
      · have ha : (0 : Int) ≤ (n : Int) - a := by omega
        by_cases h4 : m ≤ (n : Int) - a
        · have H := Lib.hid (show inB n a m = true from inB_iff.2 ⟨h1, h2, by omega⟩)
          go_enter Tryz.func101, Tryz.ntmps101
          go_wp2
          go_ret
          exact ⟨ret_bool H.out.symm, rfl⟩
        · have H := Lib.hid (show inB n a m = false from decide_eq_false (fun h => h4 (by omega)))
          have hd : decide (m ≤ (n : Int) - a) = false := decide_eq_false h4
          go_enter Tryz.func101, Tryz.ntmps101
          go_wp2
          go_ret
          exact ⟨ret_bool H.out.symm, rfl⟩
      · have H := Lib.hid (show inB n a m = false from decide_eq_false (fun h => h3 (by omega)))
        have hd : decide (a ≤ (n : Int)) = false := decide_eq_false h3
        go_enter Tryz.func101, Tryz.ntmps101
        go_wp2
        go_ret
        exact ⟨ret_bool H.out.symm, rfl⟩
    · have H := Lib.hid (show inB n a m = false from decide_eq_false (fun h => h2 (by omega)))
      have hd : decide (0 ≤ m) = false := decide_eq_false h2
      go_enter Tryz.func101, Tryz.ntmps101
      go_wp2
      go_ret
      exact ⟨ret_bool H.out.symm, rfl⟩
  · have H := Lib.hid (show inB n a m = false from decide_eq_false (fun h => h1 (by omega)))
    have hd : decide (0 ≤ a) = false := decide_eq_false h1
    go_enter Tryz.func101, Tryz.ntmps101
    go_wp2
    go_ret
    exact ⟨ret_bool H.out.symm, rfl⟩

theorem cell0 {w : World} {g : Nat} {t : TypeId} {p q t' v : Value} (h : Blk w g t #[p, q, t', v]) : w.cell? ⟨g, 0, none⟩ = some p := h.cell 0
theorem cell1 {w : World} {g : Nat} {t : TypeId} {p q t' v : Value} (h : Blk w g t #[p, q, t', v]) : w.cell? ⟨g, 1, none⟩ = some q := h.cell 1
theorem cell2 {w : World} {g : Nat} {t : TypeId} {p q t' v : Value} (h : Blk w g t #[p, q, t', v]) : w.cell? ⟨g, 2, none⟩ = some t' := h.cell 2
theorem cell3 {w : World} {g : Nat} {t : TypeId} {p q t' v : Value} (h : Blk w g t #[p, q, t', v]) : w.cell? ⟨g, 3, none⟩ = some v := h.cell 3
end Go.Proofs.YtejalfjeihlpeaaGreat
