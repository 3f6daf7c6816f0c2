/-
  Package scalar: the readers, a map of functions.
  Package tag: Pack.
-/
import Derived.Test.YtjhigmgkmmjlfaaGreatQ22
import Derived.MapKept
import Derived.Carry
namespace Go.Acc
open Go.RowKit
section
variable {P : Program} {mt kt et : TypeId}
/-- Storing under a new integer key into the map that was made last. -/
theorem run_ins (hu : P.underlying mt = some (.map kt et)) (hk : P.underlying kt = some (.int .i64)) (W : World) (es : Array MapEntry) (c g : Nat) (x : Int) (v : Value) (hg : g = W.heap.size)
    (hn : Instr.findNow (.int .i64) (.int .i64 x) es.toList 0 = some none) :
    (Instr.mapUpdate mt (.map (some g)) (.int .i64 x) v).run P (W.alloc (.map es c)) = .ok () (W.alloc (.map (es.push { key := .int .i64 x, val := v, born := c }) (c + 1))) := by
  subst hg
  have hb : (W.alloc (.map es c)).heap[W.heap.size]? = some (.map es c) := heap_alloc_new W _
  have e : ∀ o o' : Obj, (W.heap.push o).setIfInBounds W.heap.size o' = W.heap.push o' := by
    intro o o'
    apply Array.ext_getElem?
    intro i
    rw [Array.getElem?_setIfInBounds, Array.getElem?_push, Array.getElem?_push]
    by_cases h : W.heap.size = i
    · subst h; simp
    · rw [if_neg h, if_neg (fun e => h e.symm)]; rw [if_neg (fun e => h e.symm)]
  have h1 : (Instr.checkKey false 10000 kt (.int .i64 x)).run P (W.alloc (.map es c)) = .ok () (W.alloc (.map es c)) := MapKept.run_checkKey (n := 9999) (k := .int .i64 x) hk rfl false
  have h2 : (Instr.findKey kt (.int .i64 x) es.toList).run P (W.alloc (.map es c)) = .ok none (W.alloc (.map es c)) := MapKept.run_findKey hk hn
  have h3 := MapKept.run_setObj_map (P := P) (.map (es.push { key := .int .i64 x, val := v, born := c }) (c + 1)) hb
  simp only [Instr.mapUpdate, Sem.run_bind, run_underlying hu, Result.andThen_ok, MapKept.run_getObj_map hb, h1, h2, h3]
  simp only [World.alloc, e]
/-- Looking up an integer key. -/
theorem run_look (hu : P.underlying mt = some (.map kt et)) (hk : P.underlying kt = some (.int .i64)) (z : Value) (hz : ∀ W, (zeroValue et).run P W = .ok z W) (W : World) (es : Array MapEntry) (c g : Nat) (x : Int) (b : Bool) (r : Option (Nat × Value))
    (hb : W.heap[g]? = some (.map es c)) (hn : Instr.findNow (.int .i64) (.int .i64 x) es.toList 0 = some r) :
    (Instr.lookup mt (.map (some g)) (.int .i64 x) b).run P W = .ok (if b then .tuple #[(r.map (·.2)).getD z, .bool r.isSome] else (r.map (·.2)).getD z) W := by
  have h1 : (Instr.checkKey es.isEmpty 10000 kt (.int .i64 x)).run P W = .ok () W := MapKept.run_checkKey (n := 9999) (k := .int .i64 x) hk rfl _
  have h2 : (Instr.findKey kt (.int .i64 x) es.toList).run P W = .ok r W := MapKept.run_findKey hk hn
  cases r with
  | none =>
    simp only [Instr.lookup, Sem.run_bind, run_underlying hu, Result.andThen_ok, MapKept.run_getObj_map hb, h1, h2, hz, Sem.run_pure]
    rfl
  | some p =>
    obtain ⟨i, u⟩ := p
    simp only [Instr.lookup, Sem.run_bind, run_underlying hu, Result.andThen_ok, MapKept.run_getObj_map hb, h1, h2, Sem.run_pure]
    rfl
end
end Go.Acc
namespace Go.Proofs.YtjhigmgkmmjlfaaGreat
open Go.RowKit Go.Acc
/-- The entries of the map. -/
def rdEs : Array MapEntry := #[⟨.int .i64 0, .func (.func 163) #[] #[], 0⟩, ⟨.int .i64 26, .func (.func 164) #[] #[], 1⟩, ⟨.int .i64 1, .func (.func 166) #[] #[], 2⟩, ⟨.int .i64 6, .func (.func 166) #[] #[], 3⟩, ⟨.int .i64 2, .func (.func 165) #[] #[], 4⟩, ⟨.int .i64 7, .func (.func 165) #[] #[], 5⟩]
/-- The function that reads a type. -/
def rdF (t : Int) : Option Value := if t = 0 then some (.func (.func 163) #[] #[]) else if t = 26 then some (.func (.func 164) #[] #[]) else if t = 1 ∨ t = 6 then some (.func (.func 166) #[] #[]) else if t = 2 ∨ t = 7 then some (.func (.func 165) #[] #[]) else none
theorem rd_find (t : Int) : ∃ r, Instr.findNow (.int .i64) (.int .i64 t) rdEs.toList 0 = some r ∧ r.map (·.2) = rdF t := by
  by_cases h0 : t = 0
  · subst h0; exact ⟨_, rfl, rfl⟩
  by_cases h1 : t = 26
  · subst h1; exact ⟨_, rfl, rfl⟩
  by_cases h2 : t = 1
  · subst h2; exact ⟨_, rfl, rfl⟩
  by_cases h3 : t = 6
  · subst h3; exact ⟨_, rfl, rfl⟩
  by_cases h4 : t = 2
  · subst h4; exact ⟨_, rfl, rfl⟩
  by_cases h5 : t = 7
  · subst h5; exact ⟨_, rfl, rfl⟩
  refine ⟨none, ?_, ?_⟩
  · have e0 : (t == 0) = false := by simpa using h0
    have e1 : (t == 26) = false := by simpa using h1
    have e2 : (t == 1) = false := by simpa using h2
    have e3 : (t == 6) = false := by simpa using h3
    have e4 : (t == 2) = false := by simpa using h4
    have e5 : (t == 7) = false := by simpa using h5
    simp only [rdEs, Instr.findNow, Instr.sameNow, if_true, e0, e1, e2, e3, e4, e5]
  · simp [rdF, h0, h1, h2, h3, h4, h5]
def RdW (w : World) (e : Ending) (w' : World) : Prop := ∃ g, e = .returned (.map (some g)) ∧ w'.heap[g]? = some (.map rdEs 6) ∧ Below w.heap.size w w'
set_option maxRecDepth 100000 in
set_option maxHeartbeats 400000 in
theorem readers_spec (w : World) : Calls Tryz.prog 111 #[] w (RdW w) := by
  have h0 := run_makeMap (P := Tryz.prog) 161
  have h1 : ∀ (W : World) (es : Array MapEntry) (c : Nat) (x : Int) (v : Value), Instr.findNow (.int .i64) (.int .i64 x) es.toList 0 = some none → (Instr.mapUpdate 161 (.map (some W.heap.size)) (.int .i64 x) v).run Tryz.prog (W.alloc (.map es c)) = .ok () (W.alloc (.map (es.push { key := .int .i64 x, val := v, born := c }) (c + 1))) :=
    fun W es c x v h => run_ins Tryz.underlying161 Tryz.underlying3 W es c _ x v rfl h
  have i0 : ∀ W : World, (Instr.mapUpdate 161 (.map (some W.heap.size)) (.int .i64 0) (.func (.func 163) #[] #[])).run Tryz.prog (W.alloc (.map #[] 0)) = .ok () (W.alloc (.map #[⟨.int .i64 0, .func (.func 163) #[] #[], 0⟩] 1)) := fun W => h1 W #[] 0 0 _ rfl
  have i1 : ∀ W : World, (Instr.mapUpdate 161 (.map (some W.heap.size)) (.int .i64 26) (.func (.func 164) #[] #[])).run Tryz.prog (W.alloc (.map #[⟨.int .i64 0, .func (.func 163) #[] #[], 0⟩] 1)) = .ok () (W.alloc (.map #[⟨.int .i64 0, .func (.func 163) #[] #[], 0⟩, ⟨.int .i64 26, .func (.func 164) #[] #[], 1⟩] 2)) := fun W => h1 W #[⟨.int .i64 0, .func (.func 163) #[] #[], 0⟩] 1 26 _ rfl
  have i2 : ∀ W : World, (Instr.mapUpdate 161 (.map (some W.heap.size)) (.int .i64 1) (.func (.func 166) #[] #[])).run Tryz.prog (W.alloc (.map #[⟨.int .i64 0, .func (.func 163) #[] #[], 0⟩, ⟨.int .i64 26, .func (.func 164) #[] #[], 1⟩] 2)) = .ok () (W.alloc (.map #[⟨.int .i64 0, .func (.func 163) #[] #[], 0⟩, ⟨.int .i64 26, .func (.func 164) #[] #[], 1⟩, ⟨.int .i64 1, .func (.func 166) #[] #[], 2⟩] 3)) := fun W => h1 W #[⟨.int .i64 0, .func (.func 163) #[] #[], 0⟩, ⟨.int .i64 26, .func (.func 164) #[] #[], 1⟩] 2 1 _ rfl
  have i3 : ∀ W : World, (Instr.mapUpdate 161 (.map (some W.heap.size)) (.int .i64 6) (.func (.func 166) #[] #[])).run Tryz.prog (W.alloc (.map #[⟨.int .i64 0, .func (.func 163) #[] #[], 0⟩, ⟨.int .i64 26, .func (.func 164) #[] #[], 1⟩, ⟨.int .i64 1, .func (.func 166) #[] #[], 2⟩] 3)) = .ok () (W.alloc (.map #[⟨.int .i64 0, .func (.func 163) #[] #[], 0⟩, ⟨.int .i64 26, .func (.func 164) #[] #[], 1⟩, ⟨.int .i64 1, .func (.func 166) #[] #[], 2⟩, ⟨.int .i64 6, .func (.func 166) #[] #[], 3⟩] 4)) := fun W => h1 W #[⟨.int .i64 0, .func (.func 163) #[] #[], 0⟩, ⟨.int .i64 26, .func (.func 164) #[] #[], 1⟩, ⟨.int .i64 1, .func (.func 166) #[] #[], 2⟩] 3 6 _ rfl
  have i4 : ∀ W : World, (Instr.mapUpdate 161 (.map (some W.heap.size)) (.int .i64 2) (.func (.func 165) #[] #[])).run Tryz.prog (W.alloc (.map #[⟨.int .i64 0, .func (.func 163) #[] #[], 0⟩, ⟨.int .i64 26, .func (.func 164) #[] #[], 1⟩, ⟨.int .i64 1, .func (.func 166) #[] #[], 2⟩, ⟨.int .i64 6, .func (.func 166) #[] #[], 3⟩] 4)) = .ok () (W.alloc (.map #[⟨.int .i64 0, .func (.func 163) #[] #[], 0⟩, ⟨.int .i64 26, .func (.func 164) #[] #[], 1⟩, ⟨.int .i64 1, .func (.func 166) #[] #[], 2⟩, ⟨.int .i64 6, .func (.func 166) #[] #[], 3⟩, ⟨.int .i64 2, .func (.func 165) #[] #[], 4⟩] 5)) := fun W => h1 W #[⟨.int .i64 0, .func (.func 163) #[] #[], 0⟩, ⟨.int .i64 26, .func (.func 164) #[] #[], 1⟩, ⟨.int .i64 1, .func (.func 166) #[] #[], 2⟩, ⟨.int .i64 6, .func (.func 166) #[] #[], 3⟩] 4 2 _ rfl
  have i5 : ∀ W : World, (Instr.mapUpdate 161 (.map (some W.heap.size)) (.int .i64 7) (.func (.func 165) #[] #[])).run Tryz.prog (W.alloc (.map #[⟨.int .i64 0, .func (.func 163) #[] #[], 0⟩, ⟨.int .i64 26, .func (.func 164) #[] #[], 1⟩, ⟨.int .i64 1, .func (.func 166) #[] #[], 2⟩, ⟨.int .i64 6, .func (.func 166) #[] #[], 3⟩, ⟨.int .i64 2, .func (.func 165) #[] #[], 4⟩] 5)) = .ok () (W.alloc (.map #[⟨.int .i64 0, .func (.func 163) #[] #[], 0⟩, ⟨.int .i64 26, .func (.func 164) #[] #[], 1⟩, ⟨.int .i64 1, .func (.func 166) #[] #[], 2⟩, ⟨.int .i64 6, .func (.func 166) #[] #[], 3⟩, ⟨.int .i64 2, .func (.func 165) #[] #[], 4⟩, ⟨.int .i64 7, .func (.func 165) #[] #[], 5⟩] 6)) := fun W => h1 W #[⟨.int .i64 0, .func (.func 163) #[] #[], 0⟩, ⟨.int .i64 26, .func (.func 164) #[] #[], 1⟩, ⟨.int .i64 1, .func (.func 166) #[] #[], 2⟩, ⟨.int .i64 6, .func (.func 166) #[] #[], 3⟩, ⟨.int .i64 2, .func (.func 165) #[] #[], 4⟩] 5 7 _ rfl
  clear h1
  go_enter Tryz.func111, Tryz.ntmps111
  go_wp2
  go_ret
  exact ⟨_, rfl, heap_alloc_new w _, (Below.refl _ _).alloc (Nat.le_refl _) _⟩
end Go.Proofs.YtjhigmgkmmjlfaaGreat

namespace Go.Proofs.YtjhigmgkmmjlfaaGreat
open Go.RowKit Go.Acc
def pkEs : Array MapEntry := #[⟨.int .i64 1, .int .i64 0, 0⟩, ⟨.int .i64 2, .int .i64 1, 1⟩, ⟨.int .i64 4, .int .i64 2, 2⟩, ⟨.int .i64 8, .int .i64 3, 3⟩]
theorem pk_find {y : Nat} (h : isW (y : Int) = true) : ∃ i, Instr.findNow (.int .i64) (.int .i64 (y : Int)) pkEs.toList 0 = some (some (i, .int .i64 (bCode y : Int))) := by
  rcases w_cases h with rfl | rfl | rfl | rfl <;> exact ⟨_, rfl⟩
set_option maxRecDepth 100000 in
set_option maxHeartbeats 1000000 in
theorem pack_spec (t y : Nat) (w : World) (ht : legalT (t : Int) = true) (hy : isW (y : Int) = true) :
    Calls Tryz.prog 153 #[.int .i64 (t : Int), .int .i64 (y : Int)] w fun e w' => e = .returned (.tuple #[.int .u8 ((UInt8.ofNat (4 * t + bCode y)).toNat : Int), .int .i64 0]) ∧ Below w.heap.size w w' := by
  have h0 := run_makeMap (P := Tryz.prog) 269
  have h1 : ∀ (W : World) (es : Array MapEntry) (c : Nat) (x : Int) (v : Value), Instr.findNow (.int .i64) (.int .i64 x) es.toList 0 = some none → (Instr.mapUpdate 269 (.map (some W.heap.size)) (.int .i64 x) v).run Tryz.prog (W.alloc (.map es c)) = .ok () (W.alloc (.map (es.push { key := .int .i64 x, val := v, born := c }) (c + 1))) :=
    fun W es c x v h => run_ins Tryz.underlying269 Tryz.underlying3 W es c _ x v rfl h
  have i0 : ∀ W : World, (Instr.mapUpdate 269 (.map (some W.heap.size)) (.int .i64 1) (.int .i64 0)).run Tryz.prog (W.alloc (.map #[] 0)) = .ok () (W.alloc (.map #[⟨.int .i64 1, .int .i64 0, 0⟩] 1)) := fun W => h1 W #[] 0 1 _ rfl
  have i1 : ∀ W : World, (Instr.mapUpdate 269 (.map (some W.heap.size)) (.int .i64 2) (.int .i64 1)).run Tryz.prog (W.alloc (.map #[⟨.int .i64 1, .int .i64 0, 0⟩] 1)) = .ok () (W.alloc (.map #[⟨.int .i64 1, .int .i64 0, 0⟩, ⟨.int .i64 2, .int .i64 1, 1⟩] 2)) := fun W => h1 W _ 1 2 _ rfl
  have i2 : ∀ W : World, (Instr.mapUpdate 269 (.map (some W.heap.size)) (.int .i64 4) (.int .i64 2)).run Tryz.prog (W.alloc (.map #[⟨.int .i64 1, .int .i64 0, 0⟩, ⟨.int .i64 2, .int .i64 1, 1⟩] 2)) = .ok () (W.alloc (.map #[⟨.int .i64 1, .int .i64 0, 0⟩, ⟨.int .i64 2, .int .i64 1, 1⟩, ⟨.int .i64 4, .int .i64 2, 2⟩] 3)) := fun W => h1 W _ 2 4 _ rfl
  have i3 : ∀ W : World, (Instr.mapUpdate 269 (.map (some W.heap.size)) (.int .i64 8) (.int .i64 3)).run Tryz.prog (W.alloc (.map #[⟨.int .i64 1, .int .i64 0, 0⟩, ⟨.int .i64 2, .int .i64 1, 1⟩, ⟨.int .i64 4, .int .i64 2, 2⟩] 3)) = .ok () (W.alloc (.map pkEs 4)) := fun W => h1 W _ 3 8 _ rfl
  obtain ⟨i, hi⟩ := pk_find hy
  have i4 : ∀ W : World, (Instr.lookup 269 (.map (some W.heap.size)) (.int .i64 (y : Int)) true).run Tryz.prog (W.alloc (.map pkEs 4)) = .ok (.tuple #[.int .i64 (bCode y : Int), .bool true]) (W.alloc (.map pkEs 4)) := fun W => run_look Tryz.underlying269 Tryz.underlying3 (.int .i64 0) (fun W => Tryz.zeroValue3 W) (W.alloc (.map pkEs 4)) pkEs 4 W.heap.size y true _ (heap_alloc_new W _) hi
  have HT := Lib.hid ht
  have ht36 : t ≤ 36 := by have := isT_iff.1 (legal_isT ht); omega
  obtain ⟨c, hc⟩ : ∃ c, bCode y = c := ⟨_, rfl⟩
  have hc3 : c ≤ 3 := by rw [← hc]; unfold bCode; (repeat' split) <;> omega
  rw [hc] at i4 ⊢
  have HR := Lib.hid (show (4 * (t : Int) + c) = ((UInt8.ofNat (4 * t + c)).toNat : Int) by
    rw [UInt8.toNat_ofNat']
    show (4 * (t : Int) + c) = (((4 * t + c) % 256 : Nat) : Int)
    omega)
  have e1 : IntKind.i64.wrap (4 * (t : Int)) = 4 * (t : Int) := by rw [IntKind.wrap_i64]; omega
  have e2 : IntKind.i64.wrap (4 * (t : Int) + c) = 4 * (t : Int) + c := by rw [IntKind.wrap_i64]; omega
  clear h1 hi hy ht hc
  go_enter Tryz.func153, Tryz.ntmps153
  go_wp2_with fail
  go_at_call 59
  refine (legal_spec (t : Int) _).mono ?_
  rw [HT.out]
  rintro e w1 ⟨rfl, hb⟩
  have HB := Lib.hid hb
  clear hb
  go_wp2_with fail
  go_ret2
  exact ⟨ret_t1 HR.out, HB.out.alloc HB.out.size _⟩
end Go.Proofs.YtjhigmgkmmjlfaaGreat
