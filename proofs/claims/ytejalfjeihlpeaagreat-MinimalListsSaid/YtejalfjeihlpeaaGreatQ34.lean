/-
  Package minimal: fits, the method for a type.
  Package minimal: the plain account of comes, and what a look holds.
-/
import Derived.Test.YtejalfjeihlpeaaGreatQ33
namespace Go.Proofs.YtejalfjeihlpeaaGreat
open Go.RowKit Go.Acc
/-- The entries of the map. -/
def mnEs (bw : Nat) : Array MapEntry := #[⟨.int .i64 5, .func (.func 106) #[.pointer (some ⟨bw, 0, none⟩)] #[], 0⟩, ⟨.int .i64 25, .func (.func 106) #[.pointer (some ⟨bw, 0, none⟩)] #[], 1⟩, ⟨.int .i64 6, .func (.func 107) #[.pointer (some ⟨bw, 0, none⟩)] #[], 2⟩, ⟨.int .i64 7, .func (.func 108) #[.pointer (some ⟨bw, 0, none⟩)] #[], 3⟩]
/-- The method for a type, if the map has one. -/
def mnG (bw : Nat) (t : Int) : Option Value := if t = 5 ∨ t = 25 then some (.func (.func 106) #[.pointer (some ⟨bw, 0, none⟩)] #[]) else if t = 6 then some (.func (.func 107) #[.pointer (some ⟨bw, 0, none⟩)] #[]) else if t = 7 then some (.func (.func 108) #[.pointer (some ⟨bw, 0, none⟩)] #[]) else none
def mnHas (t : Int) : Bool := decide (t = 5 ∨ t = 25 ∨ t = 6 ∨ t = 7)
/-- The method for a type. -/
def mnFn (t : Int) : Nat := if t = 5 ∨ t = 25 then 106 else if t = 6 then 107 else if t = 7 then 108 else 109
theorem mn_find (bw : Nat) (t : Int) : ∃ r, Instr.findNow (.int .i64) (.int .i64 t) (mnEs bw).toList 0 = some r ∧ r.map (·.2) = mnG bw t ∧ r.isSome = mnHas t := by
  by_cases h0 : t = 5
  · subst h0; exact ⟨_, rfl, rfl, rfl⟩
  by_cases h1 : t = 25
  · subst h1; exact ⟨_, rfl, rfl, rfl⟩
  by_cases h2 : t = 6
  · subst h2; exact ⟨_, rfl, rfl, rfl⟩
  by_cases h3 : t = 7
  · subst h3; exact ⟨_, rfl, rfl, rfl⟩
  refine ⟨none, ?_, ?_, ?_⟩
  · have e0 : (t == 5) = false := by simpa using h0
    have e1 : (t == 25) = false := by simpa using h1
    have e2 : (t == 6) = false := by simpa using h2
    have e3 : (t == 7) = false := by simpa using h3
    simp only [mnEs, Instr.findNow, Instr.sameNow, if_true, e0, e1, e2, e3]
  · simp [mnG, h0, h1, h2, h3]
  · simp [mnHas, h0, h1, h2, h3]
theorem mzero_fn (W : World) : (zeroValue 95).run Tryz.prog W = .ok .nilFunc W := by
  revert W
  intro W
  kernel_rfl
theorem mn_look (bw : Nat) (t : Int) (W : World) (g : Nat) (hb : W.heap[g]? = some (.map (mnEs bw) 4)) :
    (Instr.lookup 124 (.map (some g)) (.int .i64 t) true).run Tryz.prog W = .ok (.tuple #[(mnG bw t).getD .nilFunc, .bool (mnHas t)]) W := by
  obtain ⟨r, h1, h2, h3⟩ := mn_find bw t
  rw [run_look Tryz.underlying124 Tryz.underlying3 .nilFunc mzero_fn W (mnEs bw) 4 g t true r hb h1, h2, h3]
  rfl
set_option maxRecDepth 100000 in
set_option maxHeartbeats 1000000 in
theorem fits_is (E : MnE) (t : Int) (w : World) : Calls Tryz.prog 72 #[.pointer (some ⟨E.bw, 0, none⟩), .int .i64 t] w fun e w' => e = .returned (.func (.func (mnFn t)) #[.pointer (some ⟨E.bw, 0, none⟩)] #[]) ∧ Below w.heap.size w w' := by
  obtain ⟨bw, hbw⟩ : ∃ b, E.bw = b := ⟨_, rfl⟩
  rw [hbw]
  clear hbw
  have h0 := run_makeMap (P := Tryz.prog) 124
  have h1 : ∀ (W : World) (es : Array MapEntry) (c : Nat) (x : Int) (v : Value), Instr.findNow (.int .i64) (.int .i64 x) es.toList 0 = some none → (Instr.mapUpdate 124 (.map (some W.heap.size)) (.int .i64 x) v).run Tryz.prog (W.alloc (.map es c)) = .ok () (W.alloc (.map (es.push { key := .int .i64 x, val := v, born := c }) (c + 1))) :=
    fun W es c x v h => run_ins Tryz.underlying124 Tryz.underlying3 W es c _ x v rfl h
  have i0 : ∀ W : World, (Instr.mapUpdate 124 (.map (some W.heap.size)) (.int .i64 5) (.func (.func 106) #[.pointer (some ⟨bw, 0, none⟩)] #[])).run Tryz.prog (W.alloc (.map #[] 0)) = .ok () (W.alloc (.map #[⟨.int .i64 5, .func (.func 106) #[.pointer (some ⟨bw, 0, none⟩)] #[], 0⟩] 1)) := fun W => h1 W #[] 0 5 _ rfl
  have i1 : ∀ W : World, (Instr.mapUpdate 124 (.map (some W.heap.size)) (.int .i64 25) (.func (.func 106) #[.pointer (some ⟨bw, 0, none⟩)] #[])).run Tryz.prog (W.alloc (.map #[⟨.int .i64 5, .func (.func 106) #[.pointer (some ⟨bw, 0, none⟩)] #[], 0⟩] 1)) = .ok () (W.alloc (.map #[⟨.int .i64 5, .func (.func 106) #[.pointer (some ⟨bw, 0, none⟩)] #[], 0⟩, ⟨.int .i64 25, .func (.func 106) #[.pointer (some ⟨bw, 0, none⟩)] #[], 1⟩] 2)) := fun W => h1 W #[⟨.int .i64 5, .func (.func 106) #[.pointer (some ⟨bw, 0, none⟩)] #[], 0⟩] 1 25 _ rfl
  have i2 : ∀ W : World, (Instr.mapUpdate 124 (.map (some W.heap.size)) (.int .i64 6) (.func (.func 107) #[.pointer (some ⟨bw, 0, none⟩)] #[])).run Tryz.prog (W.alloc (.map #[⟨.int .i64 5, .func (.func 106) #[.pointer (some ⟨bw, 0, none⟩)] #[], 0⟩, ⟨.int .i64 25, .func (.func 106) #[.pointer (some ⟨bw, 0, none⟩)] #[], 1⟩] 2)) = .ok () (W.alloc (.map #[⟨.int .i64 5, .func (.func 106) #[.pointer (some ⟨bw, 0, none⟩)] #[], 0⟩, ⟨.int .i64 25, .func (.func 106) #[.pointer (some ⟨bw, 0, none⟩)] #[], 1⟩, ⟨.int .i64 6, .func (.func 107) #[.pointer (some ⟨bw, 0, none⟩)] #[], 2⟩] 3)) := fun W => h1 W #[⟨.int .i64 5, .func (.func 106) #[.pointer (some ⟨bw, 0, none⟩)] #[], 0⟩, ⟨.int .i64 25, .func (.func 106) #[.pointer (some ⟨bw, 0, none⟩)] #[], 1⟩] 2 6 _ rfl
  have i3 : ∀ W : World, (Instr.mapUpdate 124 (.map (some W.heap.size)) (.int .i64 7) (.func (.func 108) #[.pointer (some ⟨bw, 0, none⟩)] #[])).run Tryz.prog (W.alloc (.map #[⟨.int .i64 5, .func (.func 106) #[.pointer (some ⟨bw, 0, none⟩)] #[], 0⟩, ⟨.int .i64 25, .func (.func 106) #[.pointer (some ⟨bw, 0, none⟩)] #[], 1⟩, ⟨.int .i64 6, .func (.func 107) #[.pointer (some ⟨bw, 0, none⟩)] #[], 2⟩] 3)) = .ok () (W.alloc (.map #[⟨.int .i64 5, .func (.func 106) #[.pointer (some ⟨bw, 0, none⟩)] #[], 0⟩, ⟨.int .i64 25, .func (.func 106) #[.pointer (some ⟨bw, 0, none⟩)] #[], 1⟩, ⟨.int .i64 6, .func (.func 107) #[.pointer (some ⟨bw, 0, none⟩)] #[], 2⟩, ⟨.int .i64 7, .func (.func 108) #[.pointer (some ⟨bw, 0, none⟩)] #[], 3⟩] 4)) := fun W => h1 W #[⟨.int .i64 5, .func (.func 106) #[.pointer (some ⟨bw, 0, none⟩)] #[], 0⟩, ⟨.int .i64 25, .func (.func 106) #[.pointer (some ⟨bw, 0, none⟩)] #[], 1⟩, ⟨.int .i64 6, .func (.func 107) #[.pointer (some ⟨bw, 0, none⟩)] #[], 2⟩] 3 7 _ rfl
  have hl := mn_look bw t (w.alloc (.map (mnEs bw) 4)) w.heap.size (heap_alloc_new w _)
  have HB := Lib.hid (show Below w.heap.size w (w.alloc (.map (mnEs bw) 4)) from (Below.refl _ _).alloc (Nat.le_refl _) _)
  unfold mnEs at hl HB
  clear h1
  by_cases h : t = 5 ∨ t = 25 ∨ t = 6 ∨ t = 7
  · have hm : mnHas t = true := decide_eq_true h
    have hg : (mnG bw t).getD .nilFunc = .func (.func (mnFn t)) #[.pointer (some ⟨bw, 0, none⟩)] #[] := by
      rcases h with rfl | rfl | rfl | rfl <;> rfl
    rw [hm, hg] at hl
    clear h hm hg
    go_enter Tryz.func72, Tryz.ntmps72
    go_wp2
    go_ret
    exact ⟨rfl, HB.out⟩
  · have hm : mnHas t = false := decide_eq_false h
    have hf : mnFn t = 109 := by unfold mnFn; rw [if_neg (by omega), if_neg (by omega), if_neg (by omega)]
    rw [hm] at hl
    rw [hf]
    clear h hm hf
    go_enter Tryz.func72, Tryz.ntmps72
    go_wp2
    go_ret
    exact ⟨rfl, HB.out⟩
/-- Whether an item fits a width. -/
def mnFits (l : List UInt8) (r : Rq) (f : Int) : Bool :=
  if r.t = 5 ∨ r.t = 25 then mnText l r.p r.q r.t r.v f else if r.t = 6 then mnInt l r.p r.q r.t r.v f else if r.t = 7 then mnUint l r.p r.q r.t r.v f else mnList l r f
end Go.Proofs.YtejalfjeihlpeaaGreat

namespace Go.Proofs.YtejalfjeihlpeaaGreat
open Go.RowKit Go.Acc
/-- Each of some elements, one after the other. -/
def mnEach (go : Rq → List P3 → Option (Except Int (List P3))) (l : List UInt8) (r : Rq) : List Nat → List P3 → Option (Except Int (List P3))
  | [], had => some (.ok had)
  | i :: is, had =>
    match go (cvAt l r i) had with
    | none => none
    | some (.error a) => some (.error a)
    | some (.ok h) => mnEach go l r is h
/-- What is done behind the first check: the keys, then the elements. -/
def mnRest (go : Rq → List P3 → Option (Except Int (List P3))) (l : List UInt8) (r : Rq) (had : List P3) : Option (Except Int (List P3)) :=
  if r.t = 9 then
    match go (cvKey l r) had with
    | none => none
    | some (.error a) => some (.error a)
    | some (.ok h) => mnEach go l r (List.range (lsLen l r.p r.q r.t r.v)) h
  else mnEach go l r (List.range (lsLen l r.p r.q r.t r.v)) had
def mnHere (l : List UInt8) (r : Rq) : P3 := (tgt l r.p r.q r.t r.v, r.t, r.v)
/-- A reference is looked at: what was seen, or where an item is too wide; none: the fuel is out. -/
def mnGo (l : List UInt8) : Nat → Rq → List P3 → Option (Except Int (List P3))
  | 0, _, _ => none
  | d + 1, r, had =>
    if inlineT r.t = true then some (.ok had)
    else if mnHere l r ∈ had ∨ r.t = 4 then some (.ok had)
    else if 1 < r.v ∧ mnFits l r (r.v / 2) = true then some (.error (tgt l r.p r.q r.t r.v))
    else mnRest (mnGo l d) l r (had ++ [mnHere l r])
/-- A reference that may be looked at. -/
def MnOk (r : Rq) : Prop := inlineT r.t = true ∨ (isW r.v = true ∧ 0 ≤ r.t ∧ r.t < 64)
theorem isw_le {x : Int} (h : isW x = true) : 1 ≤ x ∧ x ≤ 8 := by
  have := isW_iff.1 h
  omega
theorem mnok_key (l : List UInt8) (r : Rq) : MnOk (cvKey l r) := by
  unfold MnOk cvKey
  by_cases h : kyE l r.p r.q r.t r.v = 0
  · refine .inr ⟨?_, by simp only; unfold kyT; rw [if_pos h]; decide⟩
    simp only
    unfold kyV
    rw [if_pos h]
    unfold kyE at h
    cases hw : isW (kyU l r.p r.q r.t r.v : Int) with
    | true => rfl
    | false =>
      exfalso
      rw [hw] at h
      split at h
      · omega
      · split at h
        · cases h
        · split at h
          · omega
          · simp at h
  · refine .inl ?_
    simp only
    unfold kyT
    rw [if_neg h]
    rfl
theorem elemt_bd (t : Int) : 0 ≤ elemT t ∧ elemT t < 64 := by
  cases e : isT t with
  | false => simp [elemT, tRow_no e]
  | true => exact t37_all (p := fun t => 0 ≤ elemT t ∧ elemT t < 64) (by decide) e
theorem elt_bd (t : Int) (c : UInt8) : 0 ≤ (if tagT t = true then unT c else elemT t) ∧ (if tagT t = true then unT c else elemT t) < 64 := by
  by_cases h : tagT t = true
  · rw [if_pos h]
    unfold unT
    have := c.toNat_lt
    split <;> omega
  · rw [if_neg h]
    exact elemt_bd t
theorem mnok_at (l : List UInt8) (r : Rq) (hv : isW r.v = true) (i : Nat) : MnOk (cvAt l r i) := by
  unfold MnOk cvAt
  by_cases h : atE l r.p r.q r.t r.v i = 0
  · refine .inr ⟨?_, by simp only; unfold atT; rw [if_pos h]; exact elt_bd _ _⟩
    simp only
    unfold atV
    rw [if_pos h]
    by_cases h2 : tagT r.t = true
    · rw [if_pos h2]
      unfold unW
      unfold atE at h
      split at h
      · contradiction
      · split at h
        · cases h
        · unfold unE at h
          split at h
          · rename_i hl
            rw [if_pos hl]
            have hm : (tagB l r.p r.q r.t r.v i).toNat % 4 < 4 := Nat.mod_lt _ (by decide)
            generalize (tagB l r.p r.q r.t r.v i).toNat % 4 = y at hm ⊢
            have : y = 0 ∨ y = 1 ∨ y = 2 ∨ y = 3 := by omega
            rcases this with rfl | rfl | rfl | rfl <;> decide
          · cases h
    · rw [if_neg h2]
      exact hv
  · refine .inl ?_
    simp only
    unfold atT
    rw [if_neg h]
    rfl
/-- A look: its bytes, its map, its offset. -/
structure LookB (E : MnE) (m : Nat) (had : List P3) (x : Int) (w : World) : Prop where
  hc : E.n ≤ E.c
  hn : E.n ≤ 4294967296
  b : IsB w E.A E.n E.l
  k : Blk w E.bw 71 #[.slice E.A E.n E.c, .map (some m), .int .i64 x]
  h : MapS w m had
  la : ∀ ad, E.A = some ad → ad.block < w.heap.size
theorem LookB.m {E : MnE} {m : Nat} {had : List P3} {x : Int} {w : World} (h : LookB E m had x w) : MnB E w := ⟨h.hc, h.hn, h.b, h.k.cell 0⟩
theorem LookB.pure {E : MnE} {m : Nat} {had : List P3} {x : Int} {w w' : World} (h : LookB E m had x w) (hb : Below w.heap.size w w') : LookB E m had x w' := ⟨h.hc, h.hn, h.b.pure hb, h.k.pure hb, h.h.pure hb, fun ad e => Nat.lt_of_lt_of_le (h.la ad e) hb.size⟩
theorem LookB.grown {E : MnE} {m : Nat} {had : List P3} {x : Int} {W W' : World} {row : Option Nat} {B : Nat} (h : LookB E m had x W) (hm : m < B) (hg : W.grownBy W' row) (hr : ∀ r, row = some r → B ≤ r ∧ ∃ o : Obj, W.heap[r]? = some o ∧ o.isCells = false) : LookB E m had x W' := by
  obtain ⟨es, k, hb, r⟩ := h.h
  refine ⟨h.hc, h.hn, ⟨h.b.1, h.b.2.keep fun _ _ hc _ => cell_kept hc hg fun r e => (hr r e).2⟩, kept_cell hg (fun r e => (hr r e).2) h.k, ⟨es, k, ?_, r⟩, fun ad e => Nat.lt_of_lt_of_le (h.la ad e) hg.size⟩
  rw [hg.block m (Array.getElem?_eq_some_iff.1 hb).1 (fun e => by have := (hr m e.symm).1; omega)]
  exact hb
end Go.Proofs.YtejalfjeihlpeaaGreat
