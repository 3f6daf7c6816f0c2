/-
  A row of the call's own, before and behind the library's sort.
  The order of parts: cmp.Or, and the closure that compares two parts.
  The order of parts, in plain terms; the library's sort at parts.
  slices.Compact at parts.
-/
import Derived.Test.YtejalfjeihlpeaaGreatQ27
import Derived.Shelf.SlSortCmp.WholeK
import Derived.Lib.SlicesCompact
import Derived.Deep.LoopGhost
namespace Go.Acc
open Go.RowKit Go.Sort Go.Proofs
section
variable {α : Type} [Inhabited α] {f : α → List Value} {sz : Nat} {w : World} {B g n c : Nat} {e : TypeId} {l : List α}
theorem own_open {v : Value} {xs : List Value} (h : w.ownsRow B e sz v n xs) (hv : v = .slice (some ⟨g, 0, none⟩) n c) : ∃ cur, Blk w g e cur ∧ cur.size = c * sz ∧ cur.toList.take (n * sz) = xs ∧ n ≤ c ∧ c ≤ maxLen ∧ B ≤ g := by
  subst hv
  rcases h.2 with ⟨hv, _⟩ | ⟨g', cap, cur, hv, hb, hg, hnc, hcm, hcs, htake⟩
  · cases hv
  · injection hv with h1 h2 h3
    injection h1 with h1
    injection h1 with h1
    subst h1 h3
    exact ⟨cur, hg, hcs, htake, hnc, hcm, hb⟩
theorem flat_get (hf : ∀ x, (f x).length = sz) (hz : 0 < sz) (d : Array α) (j : Nat) (hj : j < d.size * sz) : (d.toList.flatMap f)[j]? = some (flatK f sz d)[j]! := by
  have hd : j / sz < d.toList.length := by rw [Array.length_toList]; exact Nat.div_lt_of_lt_mul (by rw [Nat.mul_comm]; exact hj)
  have hm : j % sz < sz := Nat.mod_lt _ hz
  have h1 := fm_at hf d.toList (j / sz) (j % sz) hd hm
  rw [show j / sz * sz + j % sz = j by rw [Nat.mul_comm]; exact Nat.div_add_mod j sz] at h1
  rw [h1, get_flatK _ _ _ _ hj]
  have e1 : d[j / sz]! = d.toList[j / sz] := by
    rw [getElem!_pos d _ (by rw [← Array.length_toList]; exact hd)]
    rfl
  rw [e1, getElem!_pos _ _ (by rw [hf]; exact hm)]
  exact List.getElem?_eq_getElem _
theorem own_holds (hf : ∀ x, (f x).length = sz) (hz : 0 < sz) (h : Own f sz e w B (some ⟨g, 0, none⟩) n c l) : HoldsK f sz w g 0 l.toArray := by
  intro j hj
  rw [size_flatK] at hj
  have h1 := flat_get hf hz l.toArray j hj
  have h2 := Rd.of_own h.2 j _ h1
  obtain ⟨b, off, e1, h3⟩ := h2
  injection e1 with e1
  injection e1 with e1 e2
  subst e1 e2
  refine ⟨h3, ?_⟩
  rw [Nat.zero_add]
  exact own_frozen h.2 j
theorem own_sorted (hf : ∀ x, (f x).length = sz) (hz : 0 < sz) (h : Own f sz e w B (some ⟨g, 0, none⟩) n c l) (d' : Array α) (hd : d'.size = n) (m : Nat) (os : Array Obj) :
    Own f sz e (sortWorldK f sz w g 0 m d' os) B (some ⟨g, 0, none⟩) n c d'.toList ∧ Fr (fun k => k = g) w (sortWorldK f sz w g 0 m d' os) := by
  obtain ⟨cur, hK, hsz, htake, hnc, hcm, hb⟩ := own_open h.2 rfl
  have hlt := hK.lt
  have hblk : (sortWorldK f sz w g 0 m d' os).heap[g]? = some (.cells (putCells id 0 (flatK f sz d') cur) e (0, 0)) := by
    unfold sortWorldK putRowK putRow mapBlock
    rw [heap_grow_old _ _ (by simpa [ahead] using hlt)]
    have hK' : w.heap[g]? = some (.cells cur e (0, 0)) := hK
    simp [Array.getElem?_modify, hK', onCells]
  refine ⟨⟨by simp [hd], ?_, .inr ⟨g, c, _, rfl, hb, hblk, hnc, hcm, ?_, ?_⟩⟩, ⟨rfl, rfl, rfl, ?_, ?_⟩⟩
  · rw [fm_length hf, Array.length_toList, hd]
  · unfold putCells; rw [Array.size_mapIdx]; exact hsz
  · have hncs : n * sz ≤ cur.size := by rw [hsz]; exact Nat.mul_le_mul_right _ hnc
    apply List.ext_getElem?
    intro j
    rw [List.getElem?_take]
    by_cases hj : j < n * sz
    · rw [if_pos hj, flat_get hf hz d' j (by rw [hd]; exact hj)]
      have hjc : j < cur.size := by omega
      unfold putCells
      simp [size_flatK, hd, hj, hjc]
    · rw [if_neg hj, List.getElem?_eq_none]
      rw [fm_length hf, Array.length_toList, hd]; omega
  · unfold sortWorldK
    rw [size_grow]
    simp [putRowK, putRow, mapBlock]
  · intro k hk hne
    unfold sortWorldK putRowK putRow mapBlock
    rw [heap_grow_old _ _ (by simpa [ahead] using hk)]

    rw [Array.getElem?_modify, if_neg (fun e => hne e.symm)]
    rfl
end
end Go.Acc

namespace Go.Proofs.YtejalfjeihlpeaaGreat
open Go.RowKit Go.Acc
def or3 (x y z : Int) : Int := if x ≠ 0 then x else if y ≠ 0 then y else z
set_option maxHeartbeats 1000000 in
theorem or_spec (b : Nat) (x y z : Int) (w : World) (h0 : w.cell? ⟨b, 0, none⟩ = some (.int .i64 x)) (h1 : w.cell? ⟨b, 1, none⟩ = some (.int .i64 y)) (h2 : w.cell? ⟨b, 2, none⟩ = some (.int .i64 z)) :
    Calls Tryz.prog 30 #[.slice (some ⟨b, 0, none⟩) 3 3] w fun e w' => e = .returned (.int .i64 (or3 x y z)) ∧ w = w' := by
  by_cases hx : x = 0
  · subst hx
    by_cases hy : y = 0
    · subst hy
      by_cases hz : z = 0
      · subst hz
        go_enter Tryz.func30, Tryz.ntmps30
        go_wp2
        refine wp_loop_rounds 4 ?_
        repeat (rw [rounds_succ]; go_wp2)
        all_goals
          go_ret
          exact ⟨rfl, rfl⟩
      · have hz' : (z != 0) = true := by simpa using hz
        have e : or3 0 0 z = z := rfl
        rw [e]
        clear hz e
        go_enter Tryz.func30, Tryz.ntmps30
        go_wp2
        refine wp_loop_rounds 4 ?_
        repeat (rw [rounds_succ]; go_wp2)
        all_goals
          go_ret
          exact ⟨rfl, rfl⟩
    · have hy' : (y != 0) = true := by simpa using hy
      have e : or3 0 y z = y := by unfold or3; rw [if_neg (by decide), if_pos hy]
      rw [e]
      clear hy e
      go_enter Tryz.func30, Tryz.ntmps30
      go_wp2
      refine wp_loop_rounds 4 ?_
      repeat (rw [rounds_succ]; go_wp2)
      all_goals
        go_ret
        exact ⟨rfl, rfl⟩
  · have hx' : (x != 0) = true := by simpa using hx
    have e : or3 x y z = x := by unfold or3; rw [if_pos hx]
    rw [e]
    clear hx e
    go_enter Tryz.func30, Tryz.ntmps30
    go_wp2
    refine wp_loop_rounds 4 ?_
    repeat (rw [rounds_succ]; go_wp2)
    all_goals
      go_ret
      exact ⟨rfl, rfl⟩
theorem compare_is (x y : Int) (r : Int) (hr : Lib.compareInt x y = r) (w : World) : Calls Tryz.prog 31 #[.int .i64 x, .int .i64 y] w fun e w' => e = .returned (.int .i64 r) ∧ w = w' := by
  subst hr
  have h := AnyG.cmp_Compare_int cmpInt x y w
  change Calls Tryz.prog 31 _ _ _ at h
  exact h.mono fun _ _ ⟨he, hw⟩ => ⟨he, hw.symm⟩
def cfP (x y : P3) : Int := or3 (Lib.compareInt x.1 y.1) (Lib.compareInt x.2.1 y.2.1) (Lib.compareInt x.2.2 y.2.2)
set_option maxRecDepth 100000 in
set_option maxHeartbeats 1000000 in
theorem less_spec28 (a b c a' b' c' : Int) (w : World) :
    Calls Tryz.prog 29 #[.agg #[.int .i64 a, .int .i64 b, .int .i64 c], .agg #[.int .i64 a', .int .i64 b', .int .i64 c']] w fun e w' => e = .returned (.int .i64 (cfP (a, b, c) (a', b', c'))) ∧ ∃ q os, w' = Sort.grow (w.drewN q) os := by
  obtain ⟨r, hr⟩ : ∃ r, Lib.compareInt a a' = r := ⟨_, rfl⟩
  obtain ⟨s, hs⟩ : ∃ r, Lib.compareInt b b' = r := ⟨_, rfl⟩
  obtain ⟨t, ht⟩ : ∃ r, Lib.compareInt c c' = r := ⟨_, rfl⟩
  have e : cfP (a, b, c) (a', b', c') = or3 r s t := by unfold cfP; simp only [hr, hs, ht]
  rw [e]
  have HR := Lib.hid hr
  have HS := Lib.hid hs
  have HT := Lib.hid ht
  clear hr hs ht e
  go_enter Tryz.func29, Tryz.ntmps29
  go_upto_region 1 with fail
  have HX := Lib.hid ((Blk.new w 57 #[.int .i64 a, .int .i64 b, .int .i64 c]).alloc (.cells #[.int .i64 a', .int .i64 b', .int .i64 c'] 57))
  have HY := Lib.hid (Blk.new_ (w := w.alloc (.cells #[.int .i64 a, .int .i64 b, .int .i64 c] 57)) (g := w.heap.size + 1) (by simp) 57 #[.int .i64 a', .int .i64 b', .int .i64 c'])
  have HG := Lib.hid (show ∃ q os, (w.alloc (.cells #[.int .i64 a, .int .i64 b, .int .i64 c] 57)).alloc (.cells #[.int .i64 a', .int .i64 b', .int .i64 c'] 57) = Sort.grow (w.drewN q) os from ⟨0, _, by rw [Sort.alloc_eq_grow, Sort.alloc_eq_grow, Sort.grow_grow]; rfl⟩)
  generalize (w.alloc (.cells #[.int .i64 a, .int .i64 b, .int .i64 c] 57)).alloc (.cells #[.int .i64 a', .int .i64 b', .int .i64 c'] 57) = w1 at HX HY HG ⊢
  have x0 : _ = some (Value.int .i64 a) := HX.out.cell 0
  have x1 : _ = some (Value.int .i64 b) := HX.out.cell 1
  have x2 : _ = some (Value.int .i64 c) := HX.out.cell 2
  have y0 : _ = some (Value.int .i64 a') := HY.out.cell 0
  have y1 : _ = some (Value.int .i64 b') := HY.out.cell 1
  have y2 : _ = some (Value.int .i64 c') := HY.out.cell 2
  have z0 := Lib.hid (show (w1.alloc (.cells #[.int .i64 r, .int .i64 s, .int .i64 t] 3)).drew.cell? ⟨w1.heap.size, 0, none⟩ = some (.int .i64 r) from (Blk.new w1 3 _).cell 0)
  have z1 := Lib.hid (show (w1.alloc (.cells #[.int .i64 r, .int .i64 s, .int .i64 t] 3)).drew.cell? ⟨w1.heap.size, 1, none⟩ = some (.int .i64 s) from (Blk.new w1 3 _).cell 1)
  have z2 := Lib.hid (show (w1.alloc (.cells #[.int .i64 r, .int .i64 s, .int .i64 t] 3)).drew.cell? ⟨w1.heap.size, 2, none⟩ = some (.int .i64 t) from (Blk.new w1 3 _).cell 2)
  go_region_held3 (fun w' => w'.cell? ⟨w.heap.size, 0, none⟩ = some (.int .i64 a) ∧ w'.cell? ⟨w.heap.size, 1, none⟩ = some (.int .i64 b) ∧ w'.cell? ⟨w.heap.size, 2, none⟩ = some (.int .i64 c) ∧ w'.cell? ⟨w.heap.size + 1, 0, none⟩ = some (.int .i64 a') ∧ w'.cell? ⟨w.heap.size + 1, 1, none⟩ = some (.int .i64 b') ∧ w'.cell? ⟨w.heap.size + 1, 2, none⟩ = some (.int .i64 c'))
    (first | with_reducible exact ⟨x0, x1, x2, y0, y1, y2⟩ | with_reducible exact ⟨ldrew x0, ldrew x1, ldrew x2, ldrew y0, ldrew y1, ldrew y2⟩ | with_reducible exact ⟨ldrew (lalloc _ x0), ldrew (lalloc _ x1), ldrew (lalloc _ x2), ldrew (lalloc _ y0), ldrew (lalloc _ y1), ldrew (lalloc _ y2)⟩)
    (first
      | (go_at_call 31; (first | (with_reducible refine (compare_is a a' r HR.out _).mono ?_) | (with_reducible refine (compare_is b b' s HS.out _).mono ?_) | (with_reducible refine (compare_is c c' t HT.out _).mono ?_)); rintro e w' ⟨rfl, rfl⟩)
      | (go_at_call 30; (with_reducible refine (or_spec w1.heap.size r s t _ z0.out z1.out z2.out).mono ?_); rintro e w' ⟨rfl, rfl⟩))
  go_wp2_with fail
  go_ret
  obtain ⟨q, os, hg⟩ := HG.out
  rw [hg]
  exact ⟨rfl, q + 1, _, by rw [Sort.alloc_eq_grow, Sort.grow_grow]; rfl⟩
end Go.Proofs.YtejalfjeihlpeaaGreat

namespace Go.Proofs.YtejalfjeihlpeaaGreat
open Go.RowKit Go.Acc Go.Sort
/-- By the first number, then the second, then the third. -/
def LtP (x y : P3) : Prop := x.1 < y.1 ∨ (x.1 = y.1 ∧ (x.2.1 < y.2.1 ∨ (x.2.1 = y.2.1 ∧ x.2.2 < y.2.2)))
instance (x y : P3) : Decidable (LtP x y) := by unfold LtP; infer_instance
theorem cmpI (a b : Int) : (a < b ∧ Lib.compareInt a b = -1) ∨ (a = b ∧ Lib.compareInt a b = 0) ∨ (b < a ∧ Lib.compareInt a b = 1) := by
  unfold Lib.compareInt
  by_cases h1 : a < b
  · simp [h1]
  · by_cases h2 : b < a
    · simp [h1, h2]
    · have : a = b := by omega
      simp [this]
theorem lt_cfP (x y : P3) : ltOf cfP x y = decide (LtP x y) := by
  unfold ltOf cfP or3 LtP
  rcases cmpI x.1 y.1 with ⟨h1, e1⟩ | ⟨h1, e1⟩ | ⟨h1, e1⟩ <;> rcases cmpI x.2.1 y.2.1 with ⟨h2, e2⟩ | ⟨h2, e2⟩ | ⟨h2, e2⟩ <;> rcases cmpI x.2.2 y.2.2 with ⟨h3, e3⟩ | ⟨h3, e3⟩ | ⟨h3, e3⟩ <;> rw [e1, e2, e3] <;> (apply decide_eq_decide.2; simp; omega)
theorem swoP : SWO (ltOf cfP) where
  irrefl x := by rw [lt_cfP]; apply decide_eq_false; unfold LtP; omega
  trans x y z h1 h2 := by rw [lt_cfP] at *; have h1 := of_decide_eq_true h1; have h2 := of_decide_eq_true h2; apply decide_eq_true; unfold LtP at *; omega
  ntrans x y z h1 h2 := by rw [lt_cfP] at *; have h1 := of_decide_eq_false h1; have h2 := of_decide_eq_false h2; apply decide_eq_false; unfold LtP at *; omega
theorem lenP (x : P3) : (pc x).length = 3 := rfl
theorem oneP (x : P3) : ∀ v ∈ pc x, v.oneCell' = true := pc_one x
/-- No later part is before an earlier one. -/
def RisesP (l : List P3) : Prop := ∀ (i j : Nat) (hi : i < l.length) (hj : j < l.length), i < j → ¬ LtP l[j] l[i]
set_option maxHeartbeats 1000000 in
theorem sort_parts (B g n c : Nat) (l : List P3) (w : World) (h : OwnP w B (some ⟨g, 0, none⟩) n c l) (hn : n ≤ 2147483648) :
    Calls Tryz.prog 57 #[.slice (some ⟨g, 0, none⟩) n c, .func (.func 29) #[] #[]] w fun e w' => e = .returned (.tuple #[]) ∧ ∃ m : List P3, m.Perm l ∧ RisesP m ∧ OwnP w' B (some ⟨g, 0, none⟩) n c m ∧ Fr (fun k => k = g) w w' := by
  have eg : ∀ args w, (callFunc 29 args).run Tryz.prog w = .ok (.enter 29 args) w := enters_of Tryz.func29 (by kernel_rfl) rfl
  have hlay : CmpLays Tryz.prog 29 #[] pc 3 cfP g 0 l.toArray.size w := fun _ _ _ _ x y => less_spec28 x.1 x.2.1 x.2.2 y.1 y.2.1 y.2.2 _
  have hlt : g < w.heap.size := (own_open h.2 rfl).elim fun _ h => h.1.lt
  have hn' : l.toArray.size = n := by rw [List.size_toArray]; exact h.1
  have hs := AnyQ.slices_SortFunc sortPart 3 Tryz.isAgg57 Tryz.sizeOf57 pc lenP oneP cfP swoP 29 #[] g 0 c l.toArray w eg hlay (own_holds lenP (by decide) h) hlt (by omega)
  rw [hn'] at hs
  change Calls Tryz.prog 57 _ _ _ at hs
  refine hs.mono ?_
  rintro e w' ⟨rfl, d, m, os, hp, hsd, rfl⟩
  have hdn : d.size = n := by rw [hp.1, hn']
  obtain ⟨h1, h2⟩ := own_sorted lenP (by decide) h d hdn m os
  refine ⟨rfl, d.toList, ?_, ?_, h1, h2⟩
  · have h3 := hp.2.2
    rw [show d.extract 0 n = d by rw [← hdn]; simp, show l.toArray.extract 0 n = l.toArray by rw [← hn']; simp] at h3
    simpa using h3
  · intro i j hi hj hij
    rw [Array.length_toList] at hi hj
    have h4 := hsd i j (Nat.zero_le _) hij (by omega)
    rw [lt_cfP, getElem!_pos d j hj, getElem!_pos d i hi] at h4
    have h5 := of_decide_eq_false h4
    simpa using h5
end Go.Proofs.YtejalfjeihlpeaaGreat

namespace Go.Acc
open Go.RowKit Go.Sort Go.Proofs
section
variable {α : Type} {f : α → List Value} {sz : Nat} {w : World} {B g n c : Nat} {e : TypeId} {l : List α} {P : Program}
theorem run_clear_own (t ty : TypeId) (z : Value) (ht : P.underlying t = some (.slice e)) (hv : ∀ W, (zeroValue e).run P W = .ok z W) (hzs : z.cells.size = sz) (hz1 : ∀ u ∈ z.cells.toList, u.oneCell' = true) (hf : ∀ x, (f x).length = sz)
    (h : Own f sz e w B (some ⟨g, 0, none⟩) n c l) (k cc : Nat) (hk : k < n) :
    ∃ w', (Builtin.clear_ #[t] ty #[.slice (some ⟨g, k * sz, none⟩) (n - k) cc]).run P w = .ok (.tuple #[]) w' ∧ Own f sz e w' B (some ⟨g, 0, none⟩) k c (l.take k) ∧ Fr (fun k => k = g) w w' := by
  have hg : ∃ cur, Blk w g e cur ∧ cur.size = c * sz ∧ cur.toList.take (n * sz) = l.flatMap f ∧ n ≤ c ∧ c ≤ maxLen ∧ B ≤ g := by
    rcases h.2.2 with ⟨hv, _⟩ | ⟨g', cap, cur, hv, hb, hg, hnc, hcm, hcs, htake⟩
    · cases hv
    · injection hv with h1 h2 h3
      injection h1 with h1
      injection h1 with h1
      subst h1 h3
      exact ⟨cur, hg, hcs, htake, hnc, hcm, hb⟩
  obtain ⟨cur, hK, hsz, htake, hnc, hcm, hb⟩ := hg
  have hm : (Builtin.zeroCells z.cells (n - k)).toList.length = (n - k) * sz := by rw [Array.length_toList, size_zeroCells, hzs]
  have e1 : k * sz + (n - k) * sz = n * sz := by rw [← Nat.add_mul]; congr 1; omega
  have e2 : n * sz ≤ c * sz := Nat.mul_le_mul_right _ hnc
  have hst := run_storeCells_at P g (k * sz) e (Builtin.zeroCells z.cells (n - k)).toList 0 cur w hK (by rw [hm]; omega) (by
    intro u hu
    simp only [Builtin.zeroCells, Array.toList_map, List.mem_map] at hu
    obtain ⟨i, hi, rfl⟩ := hu
    have hi' : i < (n - k) * z.cells.size := by simpa using hi
    have h0 : 0 < z.cells.size := by
      rcases Nat.eq_zero_or_pos z.cells.size with h | h
      · rw [h] at hi'; simp at hi'
      · exact h
    have hmod : i % z.cells.size < z.cells.size := Nat.mod_lt _ h0
    rw [getElem!_pos z.cells _ hmod]
    exact hz1 _ (by simp))
  simp only [Nat.add_zero] at hst
  obtain ⟨m, hm1⟩ : ∃ m, n - k = m + 1 := ⟨n - k - 1, by omega⟩
  refine ⟨w.setRow g (cur.toList.take (k * sz) ++ (Builtin.zeroCells z.cells (n - k)).toList ++ cur.toList.drop (k * sz + (Builtin.zeroCells z.cells (n - k)).toList.length)).toArray, ?_, ⟨by rw [List.length_take, h.1]; omega, ?_, .inr ⟨g, c, _, rfl, hb, setRow_heap w g cur _ e _ hK, by omega, hcm, ?_, ?_⟩⟩, ⟨rfl, rfl, rfl, by simp [World.setRow], fun i _ hi => setRow_other w g i _ (by rintro rfl; exact hi rfl)⟩⟩
  · rw [hm1] at hst ⊢
    simp [Builtin.clear_, run_underlying ht, hv, hst]
  · rw [fm_length hf, List.length_take, h.1, Nat.min_eq_left (by omega)]
  · simp only [List.size_toArray, List.length_append, List.length_take, List.length_drop, Array.length_toList]
    rw [Array.length_toList] at hm
    omega
  · rw [fm_take hf, ← htake, List.take_take, List.append_assoc, List.take_append_of_le_length (by rw [List.length_take, Array.length_toList]; omega), List.take_take]
    congr 1
    omega
end
end Go.Acc
namespace Go.Proofs.YtejalfjeihlpeaaGreat
open Go.RowKit Go.Acc Go.Lib
theorem part_eq : ∀ (x y : P3) (W : World), (Op.equal 57 (spV x) (spV y)).run Tryz.prog W = .ok (decide (x = y)) W := by
  rintro ⟨a, b, c⟩ ⟨a', b', c'⟩ W
  by_cases h1 : a = a' <;> by_cases h2 : b = b' <;> by_cases h3 : c = c' <;> (simp only [spV]; (change (Op.equalIn 10000 _ _ _).run Tryz.prog W = _); go_simp)
theorem part_eql (x y : P3) (b : Bool) (h : decide (x = y) = b) : ∀ W : World, (binOp .eql 57 (.agg #[.int .i64 x.1, .int .i64 x.2.1, .int .i64 x.2.2]) (.agg #[.int .i64 y.1, .int .i64 y.2.1, .int .i64 y.2.2])).run Tryz.prog W = .ok (.bool b) W := by
  intro W
  subst h
  rw [run_eql_struct]
  have h1 : (Op.equalIn 10000 57 (.agg #[.int .i64 x.1, .int .i64 x.2.1, .int .i64 x.2.2]) (.agg #[.int .i64 y.1, .int .i64 y.2.1, .int .i64 y.2.2])).run Tryz.prog W = _ := part_eq x y W
  rw [h1]
  rfl
theorem part_neq (x y : P3) (b : Bool) (h : (!decide (x = y)) = b) : ∀ W : World, (binOp .neq 57 (.agg #[.int .i64 x.1, .int .i64 x.2.1, .int .i64 x.2.2]) (.agg #[.int .i64 y.1, .int .i64 y.2.1, .int .i64 y.2.2])).run Tryz.prog W = .ok (.bool b) W := by
  intro W
  subst h
  rw [run_neq_struct]
  have h1 : (Op.equalIn 10000 57 (.agg #[.int .i64 x.1, .int .i64 x.2.1, .int .i64 x.2.2]) (.agg #[.int .i64 y.1, .int .i64 y.2.1, .int .i64 y.2.2])).run Tryz.prog W = _ := part_eq x y W
  rw [h1]
  rfl
theorem tail_run (g n c k : Nat) (hk : k < n) (hc : n ≤ c) : ∀ w, (Instr.sliceAt 24 (.slice (some ⟨g, 0, none⟩) n c) (some (.int .i64 k)) none none).run Tryz.prog w = .ok (.slice (some ⟨g, k * 3, none⟩) (n - k) (c - k)) w := by
  intro w
  have ht : Tryz.prog.underlying 24 = some (.slice (Tryz.prog.elem 24)) := by kernel_rfl
  have hz : (sizeOf (Tryz.prog.elem 24)).run Tryz.prog w = .ok 3 w := by kernel_rfl
  rw [run_sliceAt_slice (h := ht), run_slice_l (ht := ht) (h0 := by omega) (h1 := by omega), hz]
  simp [Result.andThen, sliced, add_none]
  omega
theorem head_run (g n c k : Nat) (hk : k ≤ c) : ∀ w, (Instr.sliceAt 24 (.slice (some ⟨g, 0, none⟩) n c) none (some (.int .i64 k)) none).run Tryz.prog w = .ok (.slice (some ⟨g, 0, none⟩) k c) w := by
  intro w
  have ht : Tryz.prog.underlying 24 = some (.slice (Tryz.prog.elem 24)) := by kernel_rfl
  have hz : (sizeOf (Tryz.prog.elem 24)).run Tryz.prog w = .ok 3 w := by kernel_rfl
  rw [run_sliceAt_slice (h := ht), run_slice_h (ht := ht) (h0 := by omega) (h2 := by omega), hz]
  simp [Result.andThen, sliced, Addr.add]
theorem own_at3 {w : World} {B g n c k : Nat} {d : Array P3} {a b e : Int} (h : OwnP w B (some ⟨g, 0, none⟩) n c d.toList) (hk : k < n) (hx : d[k]! = (a, b, e)) :
    (w.cell? ⟨g, k * 3, none⟩ = some (.int .i64 a) ∧ w.cell? ⟨g, k * 3 + 1, none⟩ = some (.int .i64 b) ∧ w.cell? ⟨g, k * 3 + 2, none⟩ = some (.int .i64 e)) ∧ w.frozen? ⟨g, k * 3, none⟩ = false ∧ w.frozen? ⟨g, k * 3 + 1, none⟩ = false ∧ w.frozen? ⟨g, k * 3 + 2, none⟩ = false := by
  obtain ⟨b', off, e1, hk', h1⟩ := h.is.at_ pc_len (by omega) hk
  injection e1 with e1
  injection e1 with e1 e2
  subst e1 e2
  have hx' : d.toList[k] = (a, b, e) := by
    rw [← hx, getElem!_pos d k (by simpa using hk')]
    simp
  rw [hx'] at h1
  have h0 := h1 0 (by omega)
  have h2 := h1 1 (by omega)
  have h3 := h1 2 (by omega)
  simp only [Nat.zero_add, Nat.add_zero] at h0 h2 h3
  exact ⟨⟨h0, h2, h3⟩, own_frozen h.2 _, own_frozen h.2 _, own_frozen h.2 _⟩
theorem own_set3 {w : World} {B g n c k : Nat} {d : Array P3} (h : OwnP w B (some ⟨g, 0, none⟩) n c d.toList) (hk : k < n) (a b e : Int) :
    OwnP (((w.setCell ⟨g, k * 3, none⟩ (.int .i64 a)).setCell ⟨g, k * 3 + 1, none⟩ (.int .i64 b)).setCell ⟨g, k * 3 + 2, none⟩ (.int .i64 e)) B (some ⟨g, 0, none⟩) n c (d.setIfInBounds k (a, b, e)).toList := by
  have hd : d.toList.length = n := h.1
  refine ⟨by simpa using hd, ?_⟩
  have h1 := ((h.2.stored (k * 3) (.int .i64 a)).1.stored (k * 3 + 1) (.int .i64 b)).1.stored (k * 3 + 2) (.int .i64 e)
  have e1 : (d.setIfInBounds k (a, b, e)).toList.flatMap pc = (((d.toList.flatMap pc).set (k * 3) (.int .i64 a)).set (k * 3 + 1) (.int .i64 b)).set (k * 3 + 2) (.int .i64 e) := by
    apply List.ext_getElem?
    intro j
    simp only [List.getElem?_set, List.length_set, fm_length pc_len, hd, Array.toList_setIfInBounds]
    by_cases hj : j < n * 3
    · have hjd : j / 3 < n := Nat.div_lt_of_lt_mul (by omega)
      have hjm : j % 3 < 3 := Nat.mod_lt _ (by omega)
      have hjj : j = j / 3 * 3 + j % 3 := by omega
      rw [hjj]
      generalize j / 3 = q at hjd
      generalize j % 3 = r at hjm
      rw [fm_at pc_len _ q r (by rw [List.length_set]; omega) hjm, fm_at pc_len _ q r (by omega) hjm, List.getElem_set]
      by_cases hq : k = q
      · subst hq
        rw [if_pos rfl]
        have : r = 0 ∨ r = 1 ∨ r = 2 := by omega
        rcases this with rfl | rfl | rfl
        · simp [pc]; omega
        · simp [pc]; omega
        · simp [pc]; omega
      · rw [if_neg hq, if_neg (by omega), if_neg (by omega), if_neg (by omega)]
    · rw [List.getElem?_eq_none (by rw [fm_length pc_len, List.length_set]; omega), if_neg (by omega), if_neg (by omega), if_neg (by omega), List.getElem?_eq_none (by rw [fm_length pc_len]; omega)]
  rw [e1]
  exact h1.1
end Go.Proofs.YtejalfjeihlpeaaGreat
