/-
  Package find: Find.
  A byte stored into a row of the call's own.
  Package find: contracts for the examples of the chapter.
  Package scalar: the readers, a map of functions.
  Package scalar: the functions of the readers.
-/
import Derived.Test.YtejalfjeihlpeaaQ12
import Derived.MapKept
import Derived.Carry
namespace Go.Proofs.Ytejalfjeihlpeaa
open Go.RowKit Go.Acc
def opN (l : List UInt8) (p q t v : Int) : Nat := lsLen l (kyP l p q t v) (kyQ l p q t v) (kyT l p q t v) (kyV l p q t v)
/-- The search: its error, its index. -/
def fdX (l k : List UInt8) (p q t v : Int) : Int × Nat := bsr (fiF l k (kyP l p q t v) (kyQ l p q t v) (kyT l p q t v) (kyV l p q t v)) (opN l p q t v) 0 (opN l p q t v)
/-- The key is there. -/
def fdGo (l k : List UInt8) (p q t v : Int) : Bool :=
  decide (opE l p q t v = 0 ∧ (fdX l k p q t v).1 = 0 ∧ (fdX l k p q t v).2 ≠ opN l p q t v ∧ rkE l (kyP l p q t v) (kyQ l p q t v) (kyT l p q t v) (kyV l p q t v) (fdX l k p q t v).2 = 0 ∧ rkS l (kyP l p q t v) (kyQ l p q t v) (kyT l p q t v) (kyV l p q t v) (fdX l k p q t v).2 = k)
def fdE (l k : List UInt8) (p q t v : Int) : Int :=
  if fdGo l k p q t v = true then atE l p q t v (fdX l k p q t v).2 else if opE l p q t v ≠ 0 then opE l p q t v else if (fdX l k p q t v).1 ≠ 0 then (fdX l k p q t v).1 else if (fdX l k p q t v).2 = opN l p q t v then 0 else rkE l (kyP l p q t v) (kyQ l p q t v) (kyT l p q t v) (kyV l p q t v) (fdX l k p q t v).2
def fdB (l k : List UInt8) (p q t v : Int) : Bool := fdGo l k p q t v && (atE l p q t v (fdX l k p q t v).2 == 0)
def fdP (l k : List UInt8) (p q t v : Int) : Int := if fdGo l k p q t v = true then atP l p q t v (fdX l k p q t v).2 else 0
def fdQ (l k : List UInt8) (p q t v : Int) : Int := if fdGo l k p q t v = true then atQ l p q t v (fdX l k p q t v).2 else 0
def fdT (l k : List UInt8) (p q t v : Int) : Int := if fdGo l k p q t v = true then atT l p q t v (fdX l k p q t v).2 else 0
def fdV (l k : List UInt8) (p q t v : Int) : Int := if fdGo l k p q t v = true then atV l p q t v (fdX l k p q t v).2 else 0
theorem fd_cases (l k : List UInt8) (p q t v : Int) : (opE l p q t v ≠ 0 ∧ fdGo l k p q t v = false ∧ fdE l k p q t v = opE l p q t v) ∨ (opE l p q t v = 0 ∧ (((fdX l k p q t v).1 ≠ 0 ∧ fdGo l k p q t v = false ∧ fdE l k p q t v = (fdX l k p q t v).1) ∨ ((fdX l k p q t v).1 = 0 ∧
    (((fdX l k p q t v).2 = opN l p q t v ∧ fdGo l k p q t v = false ∧ fdE l k p q t v = 0) ∨ ((fdX l k p q t v).2 ≠ opN l p q t v ∧ ((rkE l (kyP l p q t v) (kyQ l p q t v) (kyT l p q t v) (kyV l p q t v) (fdX l k p q t v).2 ≠ 0 ∧ fdGo l k p q t v = false ∧ fdE l k p q t v = rkE l (kyP l p q t v) (kyQ l p q t v) (kyT l p q t v) (kyV l p q t v) (fdX l k p q t v).2) ∨
      (rkE l (kyP l p q t v) (kyQ l p q t v) (kyT l p q t v) (kyV l p q t v) (fdX l k p q t v).2 = 0 ∧ ((rkS l (kyP l p q t v) (kyQ l p q t v) (kyT l p q t v) (kyV l p q t v) (fdX l k p q t v).2 ≠ k ∧ fdGo l k p q t v = false ∧ fdE l k p q t v = 0) ∨ (rkS l (kyP l p q t v) (kyQ l p q t v) (kyT l p q t v) (kyV l p q t v) (fdX l k p q t v).2 = k ∧ fdGo l k p q t v = true ∧ fdE l k p q t v = atE l p q t v (fdX l k p q t v).2))))))))) := by
  unfold fdE
  by_cases h1 : opE l p q t v = 0
  · refine .inr ⟨h1, ?_⟩
    by_cases h2 : (fdX l k p q t v).1 = 0
    · refine .inr ⟨h2, ?_⟩
      by_cases h3 : (fdX l k p q t v).2 = opN l p q t v
      · have hg : fdGo l k p q t v = false := decide_eq_false (fun h => h.2.2.1 h3)
        refine .inl ⟨h3, hg, ?_⟩
        rw [if_neg (by rw [hg]; decide), if_neg (by rw [h1]; decide), if_neg (by rw [h2]; decide), if_pos h3]
      · refine .inr ⟨h3, ?_⟩
        by_cases h4 : rkE l (kyP l p q t v) (kyQ l p q t v) (kyT l p q t v) (kyV l p q t v) (fdX l k p q t v).2 = 0
        · refine .inr ⟨h4, ?_⟩
          by_cases h5 : rkS l (kyP l p q t v) (kyQ l p q t v) (kyT l p q t v) (kyV l p q t v) (fdX l k p q t v).2 = k
          · have hg : fdGo l k p q t v = true := decide_eq_true ⟨h1, h2, h3, h4, h5⟩
            exact .inr ⟨h5, hg, by rw [if_pos hg]⟩
          · have hg : fdGo l k p q t v = false := decide_eq_false (fun h => h5 h.2.2.2.2)
            refine .inl ⟨h5, hg, ?_⟩
            rw [if_neg (by rw [hg]; decide), if_neg (by rw [h1]; decide), if_neg (by rw [h2]; decide), if_neg h3, h4]
        · have hg : fdGo l k p q t v = false := decide_eq_false (fun h => h4 h.2.2.2.1)
          refine .inl ⟨h4, hg, ?_⟩
          rw [if_neg (by rw [hg]; decide), if_neg (by rw [h1]; decide), if_neg (by rw [h2]; decide), if_neg h3]
    · have hg : fdGo l k p q t v = false := decide_eq_false (fun h => h2 h.2.1)
      refine .inl ⟨h2, hg, ?_⟩
      rw [if_neg (by rw [hg]; decide), if_neg (by rw [h1]; decide), if_pos h2]
  · have hg : fdGo l k p q t v = false := decide_eq_false (fun h => h1 h.1)
    refine .inl ⟨h1, hg, ?_⟩
    rw [if_neg (by rw [hg]; decide), if_pos h1]
def FdW (w : World) (l k : List UInt8) (p q t v : Int) (e : Ending) (w' : World) : Prop :=
  e = .returned (.tuple #[.agg #[.int .i64 (fdP l k p q t v), .int .i64 (fdQ l k p q t v), .int .i64 (fdT l k p q t v), .int .i64 (fdV l k p q t v)], .bool (fdB l k p q t v), .int .i64 (fdE l k p q t v)]) ∧ Below w.heap.size w w'
theorem fdw_no {w w' : World} {l k : List UInt8} {p q t v er : Int} (hg : fdGo l k p q t v = false) (h : fdE l k p q t v = er) (hb : Below w.heap.size w w') :
    FdW w l k p q t v (.returned (.tuple #[.agg #[.int .i64 0, .int .i64 0, .int .i64 0, .int .i64 0], .bool false, .int .i64 er])) w' := by
  unfold FdW fdB fdP fdQ fdT fdV
  rw [h, hg]
  exact ⟨rfl, hb⟩
theorem fdw_yes {w w' : World} {l k : List UInt8} {p q t v a b d g er : Int} {i : Nat} (hg : fdGo l k p q t v = true) (h : fdE l k p q t v = atE l p q t v (fdX l k p q t v).2) (hi : (fdX l k p q t v).2 = i)
    (h1 : atP l p q t v i = a) (h2 : atQ l p q t v i = b) (h3 : atT l p q t v i = d) (h4 : atV l p q t v i = g) (h5 : atE l p q t v i = er) (hb : Below w.heap.size w w') :
    FdW w l k p q t v (.returned (.tuple #[.agg #[.int .i64 a, .int .i64 b, .int .i64 d, .int .i64 g], .bool (er == 0), .int .i64 er])) w' := by
  unfold FdW fdB fdP fdQ fdT fdV
  rw [h, hg, hi, h1, h2, h3, h4, h5]
  exact ⟨rfl, hb⟩
end Go.Proofs.Ytejalfjeihlpeaa

/-
  Package find's reference: Find.
-/
namespace Go.Proofs.Ytejalfjeihlpeaa
open Go.RowKit Go.Acc
theorem fndL_len (l : List UInt8) (p q t v : Int) (ts : List Nat) : (fndL l p q t v ts).length ≤ l.length := by
  unfold fndL keyL cntL
  split
  · split <;> (rw [List.length_take, List.length_drop]; omega)
  · exact Nat.zero_le _
theorem rkS_len (l : List UInt8) (p q t v i : Int) : (rkS l p q t v i).length ≤ l.length := by
  unfold rkS
  split
  · exact Nat.zero_le _
  · exact fndL_len _ _ _ _ _ _
end Go.Proofs.Ytejalfjeihlpeaa

namespace Go.Proofs.Ytejalfjeihlpeaa
open Go.RowKit Go.Acc
theorem own_setB {w : World} {B g n c i : Nat} {l : List UInt8} (h : OwnB w B (some ⟨g, 0, none⟩) n c l) (hi : i < n) (b : UInt8) :
    (w.frozen? ⟨g, i, none⟩ = false ∧ ∃ u, w.cell? ⟨g, i, none⟩ = some u) ∧ OwnB (w.setCell ⟨g, i, none⟩ (.int .u8 (b.toNat : Int))) B (some ⟨g, 0, none⟩) n c (l.take i ++ [b] ++ l.drop (i + 1)) := by
  obtain ⟨cur, hK, hsz, hback⟩ := own_seg h
  refine ⟨⟨hK.frozen i, _, (hK.cell i).trans (Array.getElem?_eq_getElem (by omega))⟩, hback _ _ i 1 [b] (hK.set_ i _) ?_ rfl (by omega)⟩
  have := (Seg.zero cur i ([b].flatMap bc)).step (v := .int .u8 (b.toNat : Int)) rfl (by omega)
  exact this
theorem own_some {w : World} {B n c : Nat} {A : Option Addr} {l : List UInt8} (h : OwnB w B A n c l) (hn : 0 < n) : ∃ g, A = some ⟨g, 0, none⟩ ∧ B ≤ g := by
  cases A with
  | none => exact absurd (h.is.none_ bc_len (by omega)).2 (by omega)
  | some ad =>
    obtain ⟨h1, h2, _⟩ := h.addr ad rfl
    exact ⟨ad.block, by rw [h1], h2⟩
theorem isb_vs_ {w : World} {g n : Nat} {vs : Array Value} (hg : w.heap.size = g) (hn : vs.size = n) (h : vs.toList = (unb vs).flatMap bc) : IsB (w.alloc (.cells vs 5)) (some ⟨g, 0, none⟩) n (unb vs) := by
  subst hg
  exact isb_vs w vs n hn h
end Go.Proofs.Ytejalfjeihlpeaa

namespace Go.Proofs.Ytejalfjeihlpeaa
open Go.RowKit Go.Acc
theorem fkeys_is (A : Option Addr) (n c : Nat) (p q t v a b d g er : Int) (l : List UInt8) (w : World) (h : IsB w A n l) (hc : n ≤ c) (hn : n ≤ 1099511627776) (h1 : kyP l p q t v = a) (h2 : kyQ l p q t v = b) (h3 : kyT l p q t v = d) (h4 : kyV l p q t v = g) (h5 : kyE l p q t v = er) :
    Calls Try.prog 43 #[.slice A n c, .agg #[.int .i64 p, .int .i64 q, .int .i64 t, .int .i64 v]] w fun e w' => e = .returned (.tuple #[.agg #[.int .i64 a, .int .i64 b, .int .i64 d, .int .i64 g], .int .i64 er]) ∧ Below w.heap.size w w' := by
  subst h1 h2 h3 h4 h5
  exact fkeys_spec A n c p q t v l w h hc hn
def ex25 (i : Nat) (c : UInt8) : List UInt8 := ([97, 0, 98, 0, 2, 5, 4, 2, 1, 2, 0, 1, 0, 4, 4, 36, 1] : List UInt8).set i c
theorem bc_set (l : List UInt8) (i : Nat) (c : UInt8) : (l.set i c).flatMap bc = (l.flatMap bc).set i (.int .u8 (c.toNat : Int)) := by
  have h : ∀ m : List UInt8, m.flatMap bc = m.map fun x => Value.int .u8 (x.toNat : Int) := by
    intro m
    induction m with
    | nil => rfl
    | cons x m ih => rw [List.flatMap_cons, ih]; rfl
  rw [h, h, List.map_set]
end Go.Proofs.Ytejalfjeihlpeaa

/-
  Package find: the examples of the chapter.
-/
namespace Go.Proofs.Ytejalfjeihlpeaa
open Go.RowKit Go.Acc
def d25 : List UInt8 := ex25 0 97
theorem w25_1 : kyP d25 14 1 9 1 = 7 ∧ kyQ d25 14 1 9 1 = 1 ∧ kyT d25 14 1 9 1 = 14 ∧ kyV d25 14 1 9 1 = 1 ∧ kyE d25 14 1 9 1 = 0 := by decide
theorem w25_2 : kyP (ex25 8 3) 14 1 9 1 = 0 ∧ kyQ (ex25 8 3) 14 1 9 1 = 0 ∧ kyT (ex25 8 3) 14 1 9 1 = 0 ∧ kyV (ex25 8 3) 14 1 9 1 = 0 ∧ kyE (ex25 8 3) 14 1 9 1 = 212 := by decide
theorem w25_3 : kyP [5, 4, 1] 0 1 1 1 = 0 ∧ kyQ [5, 4, 1] 0 1 1 1 = 0 ∧ kyT [5, 4, 1] 0 1 1 1 = 0 ∧ kyV [5, 4, 1] 0 1 1 1 = 0 ∧ kyE [5, 4, 1] 0 1 1 1 = 60 := by decide
theorem w25_4 : kaS d25 14 1 9 1 0 = [97] ∧ kaE d25 14 1 9 1 0 = 0 := by decide
theorem w25_5 : kaS d25 14 1 9 1 2 = [] ∧ kaE d25 14 1 9 1 2 = 6 := by decide
theorem w25_6 : fdP d25 [98] 14 1 9 1 = 11 ∧ fdQ d25 [98] 14 1 9 1 = 1 ∧ fdT d25 [98] 14 1 9 1 = 1 ∧ fdV d25 [98] 14 1 9 1 = 1 ∧ fdB d25 [98] 14 1 9 1 = true ∧ fdE d25 [98] 14 1 9 1 = 0 := by decide
theorem w25_7 : fdP d25 [99] 14 1 9 1 = 0 ∧ fdQ d25 [99] 14 1 9 1 = 0 ∧ fdT d25 [99] 14 1 9 1 = 0 ∧ fdV d25 [99] 14 1 9 1 = 0 ∧ fdB d25 [99] 14 1 9 1 = false ∧ fdE d25 [99] 14 1 9 1 = 0 := by decide
theorem w25_8 : fdP d25 [] 14 1 9 1 = 0 ∧ fdQ d25 [] 14 1 9 1 = 0 ∧ fdT d25 [] 14 1 9 1 = 0 ∧ fdV d25 [] 14 1 9 1 = 0 ∧ fdB d25 [] 14 1 9 1 = false ∧ fdE d25 [] 14 1 9 1 = 0 := by decide
theorem w25_9 : kaS (ex25 4 1) 14 1 9 1 0 = [] ∧ kaE (ex25 4 1) 14 1 9 1 0 = 214 := by decide
theorem w25_10 : kaS (ex25 5 6) 14 1 9 1 0 = [] ∧ kaE (ex25 5 6) 14 1 9 1 0 = 211 := by decide
theorem lsetA {w : World} {g i g' j : Nat} {u v : Value} (h : w.cell? ⟨g, i, none⟩ = some v) (hne : g ≠ g') : (w.setCell ⟨g', j, none⟩ u).cell? ⟨g, i, none⟩ = some v := lset h hne
end Go.Proofs.Ytejalfjeihlpeaa

namespace Go.Acc
open Go.RowKit
section
variable {P : Program} {mt kt et : TypeId}
/-- Storing under a new integer key into the map that was made last. -/
theorem run_ins (hu : P.underlying mt = some (.map kt et)) (hk : P.underlying kt = some (.int .i64)) (W : World) (es : Array MapEntry) (c g : Nat) (x : Int) (v : Value) (hg : g = W.heap.size)
    (hn : Instr.findNow (.int .i64) (.int .i64 x) es.toList 0 = some none) :
    (Instr.mapUpdate mt (.map (some g)) (.int .i64 x) v).run P (W.alloc (.map es c)) = .ok () (W.alloc (.map (es.push { key := .int .i64 x, val := v, born := c }) (c + 1))) := by
  subst hg
  have hb : (W.alloc (.map es c)).heap[W.heap.size]? = some (.map es c) := heap_alloc_new W _
  have e : ∀ o o' : Obj, (W.heap.push o).setIfInBounds W.heap.size o' = W.heap.push o' := by
    intro o o'
    apply Array.ext_getElem?
    intro i
    rw [Array.getElem?_setIfInBounds, Array.getElem?_push, Array.getElem?_push]
    by_cases h : W.heap.size = i
    · subst h; simp
    · rw [if_neg h, if_neg (fun e => h e.symm)]; rw [if_neg (fun e => h e.symm)]
  have h1 : (Instr.checkKey false 10000 kt (.int .i64 x)).run P (W.alloc (.map es c)) = .ok () (W.alloc (.map es c)) := MapKept.run_checkKey (n := 9999) (k := .int .i64 x) hk rfl false
  have h2 : (Instr.findKey kt (.int .i64 x) es.toList).run P (W.alloc (.map es c)) = .ok none (W.alloc (.map es c)) := MapKept.run_findKey hk hn
  have h3 := MapKept.run_setObj_map (P := P) (.map (es.push { key := .int .i64 x, val := v, born := c }) (c + 1)) hb
  simp only [Instr.mapUpdate, Sem.run_bind, run_underlying hu, Result.andThen_ok, MapKept.run_getObj_map hb, h1, h2, h3]
  simp only [World.alloc, e]
/-- Looking up an integer key. -/
theorem run_look (hu : P.underlying mt = some (.map kt et)) (hk : P.underlying kt = some (.int .i64)) (z : Value) (hz : ∀ W, (zeroValue et).run P W = .ok z W) (W : World) (es : Array MapEntry) (c g : Nat) (x : Int) (b : Bool) (r : Option (Nat × Value))
    (hb : W.heap[g]? = some (.map es c)) (hn : Instr.findNow (.int .i64) (.int .i64 x) es.toList 0 = some r) :
    (Instr.lookup mt (.map (some g)) (.int .i64 x) b).run P W = .ok (if b then .tuple #[(r.map (·.2)).getD z, .bool r.isSome] else (r.map (·.2)).getD z) W := by
  have h1 : (Instr.checkKey es.isEmpty 10000 kt (.int .i64 x)).run P W = .ok () W := MapKept.run_checkKey (n := 9999) (k := .int .i64 x) hk rfl _
  have h2 : (Instr.findKey kt (.int .i64 x) es.toList).run P W = .ok r W := MapKept.run_findKey hk hn
  cases r with
  | none =>
    simp only [Instr.lookup, Sem.run_bind, run_underlying hu, Result.andThen_ok, MapKept.run_getObj_map hb, h1, h2, hz, Sem.run_pure]
    rfl
  | some p =>
    obtain ⟨i, u⟩ := p
    simp only [Instr.lookup, Sem.run_bind, run_underlying hu, Result.andThen_ok, MapKept.run_getObj_map hb, h1, h2, Sem.run_pure]
    rfl
end
end Go.Acc
namespace Go.Proofs.Ytejalfjeihlpeaa
open Go.RowKit Go.Acc
/-- The entries of the map. -/
def rdEs : Array MapEntry := #[⟨.int .i64 0, .func (.func 91) #[] #[], 0⟩, ⟨.int .i64 26, .func (.func 92) #[] #[], 1⟩, ⟨.int .i64 1, .func (.func 94) #[] #[], 2⟩, ⟨.int .i64 6, .func (.func 94) #[] #[], 3⟩, ⟨.int .i64 2, .func (.func 93) #[] #[], 4⟩, ⟨.int .i64 7, .func (.func 93) #[] #[], 5⟩]
/-- The function that reads a type. -/
def rdF (t : Int) : Option Value := if t = 0 then some (.func (.func 91) #[] #[]) else if t = 26 then some (.func (.func 92) #[] #[]) else if t = 1 ∨ t = 6 then some (.func (.func 94) #[] #[]) else if t = 2 ∨ t = 7 then some (.func (.func 93) #[] #[]) else none
theorem rd_find (t : Int) : ∃ r, Instr.findNow (.int .i64) (.int .i64 t) rdEs.toList 0 = some r ∧ r.map (·.2) = rdF t := by
  by_cases h0 : t = 0
  · subst h0; exact ⟨_, rfl, rfl⟩
  by_cases h1 : t = 26
  · subst h1; exact ⟨_, rfl, rfl⟩
  by_cases h2 : t = 1
  · subst h2; exact ⟨_, rfl, rfl⟩
  by_cases h3 : t = 6
  · subst h3; exact ⟨_, rfl, rfl⟩
  by_cases h4 : t = 2
  · subst h4; exact ⟨_, rfl, rfl⟩
  by_cases h5 : t = 7
  · subst h5; exact ⟨_, rfl, rfl⟩
  refine ⟨none, ?_, ?_⟩
  · have e0 : (t == 0) = false := by simpa using h0
    have e1 : (t == 26) = false := by simpa using h1
    have e2 : (t == 1) = false := by simpa using h2
    have e3 : (t == 6) = false := by simpa using h3
    have e4 : (t == 2) = false := by simpa using h4
    have e5 : (t == 7) = false := by simpa using h5
    simp only [rdEs, Instr.findNow, Instr.sameNow, if_true, e0, e1, e2, e3, e4, e5]
  · simp [rdF, h0, h1, h2, h3, h4, h5]
def RdW (w : World) (e : Ending) (w' : World) : Prop := ∃ g, e = .returned (.map (some g)) ∧ w'.heap[g]? = some (.map rdEs 6) ∧ Below w.heap.size w w'
set_option maxRecDepth 100000 in
set_option maxHeartbeats 400000 in
theorem readers_spec (w : World) : Calls Try.prog 74 #[] w (RdW w) := by
  have h0 := run_makeMap (P := Try.prog) 116
  have h1 : ∀ (W : World) (es : Array MapEntry) (c : Nat) (x : Int) (v : Value), Instr.findNow (.int .i64) (.int .i64 x) es.toList 0 = some none → (Instr.mapUpdate 116 (.map (some W.heap.size)) (.int .i64 x) v).run Try.prog (W.alloc (.map es c)) = .ok () (W.alloc (.map (es.push { key := .int .i64 x, val := v, born := c }) (c + 1))) :=
    fun W es c x v h => run_ins Try.underlying116 Try.underlying3 W es c _ x v rfl h
  have i0 : ∀ W : World, (Instr.mapUpdate 116 (.map (some W.heap.size)) (.int .i64 0) (.func (.func 91) #[] #[])).run Try.prog (W.alloc (.map #[] 0)) = .ok () (W.alloc (.map #[⟨.int .i64 0, .func (.func 91) #[] #[], 0⟩] 1)) := fun W => h1 W #[] 0 0 _ rfl
  have i1 : ∀ W : World, (Instr.mapUpdate 116 (.map (some W.heap.size)) (.int .i64 26) (.func (.func 92) #[] #[])).run Try.prog (W.alloc (.map #[⟨.int .i64 0, .func (.func 91) #[] #[], 0⟩] 1)) = .ok () (W.alloc (.map #[⟨.int .i64 0, .func (.func 91) #[] #[], 0⟩, ⟨.int .i64 26, .func (.func 92) #[] #[], 1⟩] 2)) := fun W => h1 W #[⟨.int .i64 0, .func (.func 91) #[] #[], 0⟩] 1 26 _ rfl
  have i2 : ∀ W : World, (Instr.mapUpdate 116 (.map (some W.heap.size)) (.int .i64 1) (.func (.func 94) #[] #[])).run Try.prog (W.alloc (.map #[⟨.int .i64 0, .func (.func 91) #[] #[], 0⟩, ⟨.int .i64 26, .func (.func 92) #[] #[], 1⟩] 2)) = .ok () (W.alloc (.map #[⟨.int .i64 0, .func (.func 91) #[] #[], 0⟩, ⟨.int .i64 26, .func (.func 92) #[] #[], 1⟩, ⟨.int .i64 1, .func (.func 94) #[] #[], 2⟩] 3)) := fun W => h1 W #[⟨.int .i64 0, .func (.func 91) #[] #[], 0⟩, ⟨.int .i64 26, .func (.func 92) #[] #[], 1⟩] 2 1 _ rfl
  have i3 : ∀ W : World, (Instr.mapUpdate 116 (.map (some W.heap.size)) (.int .i64 6) (.func (.func 94) #[] #[])).run Try.prog (W.alloc (.map #[⟨.int .i64 0, .func (.func 91) #[] #[], 0⟩, ⟨.int .i64 26, .func (.func 92) #[] #[], 1⟩, ⟨.int .i64 1, .func (.func 94) #[] #[], 2⟩] 3)) = .ok () (W.alloc (.map #[⟨.int .i64 0, .func (.func 91) #[] #[], 0⟩, ⟨.int .i64 26, .func (.func 92) #[] #[], 1⟩, ⟨.int .i64 1, .func (.func 94) #[] #[], 2⟩, ⟨.int .i64 6, .func (.func 94) #[] #[], 3⟩] 4)) := fun W => h1 W #[⟨.int .i64 0, .func (.func 91) #[] #[], 0⟩, ⟨.int .i64 26, .func (.func 92) #[] #[], 1⟩, ⟨.int .i64 1, .func (.func 94) #[] #[], 2⟩] 3 6 _ rfl
  have i4 : ∀ W : World, (Instr.mapUpdate 116 (.map (some W.heap.size)) (.int .i64 2) (.func (.func 93) #[] #[])).run Try.prog (W.alloc (.map #[⟨.int .i64 0, .func (.func 91) #[] #[], 0⟩, ⟨.int .i64 26, .func (.func 92) #[] #[], 1⟩, ⟨.int .i64 1, .func (.func 94) #[] #[], 2⟩, ⟨.int .i64 6, .func (.func 94) #[] #[], 3⟩] 4)) = .ok () (W.alloc (.map #[⟨.int .i64 0, .func (.func 91) #[] #[], 0⟩, ⟨.int .i64 26, .func (.func 92) #[] #[], 1⟩, ⟨.int .i64 1, .func (.func 94) #[] #[], 2⟩, ⟨.int .i64 6, .func (.func 94) #[] #[], 3⟩, ⟨.int .i64 2, .func (.func 93) #[] #[], 4⟩] 5)) := fun W => h1 W #[⟨.int .i64 0, .func (.func 91) #[] #[], 0⟩, ⟨.int .i64 26, .func (.func 92) #[] #[], 1⟩, ⟨.int .i64 1, .func (.func 94) #[] #[], 2⟩, ⟨.int .i64 6, .func (.func 94) #[] #[], 3⟩] 4 2 _ rfl
  have i5 : ∀ W : World, (Instr.mapUpdate 116 (.map (some W.heap.size)) (.int .i64 7) (.func (.func 93) #[] #[])).run Try.prog (W.alloc (.map #[⟨.int .i64 0, .func (.func 91) #[] #[], 0⟩, ⟨.int .i64 26, .func (.func 92) #[] #[], 1⟩, ⟨.int .i64 1, .func (.func 94) #[] #[], 2⟩, ⟨.int .i64 6, .func (.func 94) #[] #[], 3⟩, ⟨.int .i64 2, .func (.func 93) #[] #[], 4⟩] 5)) = .ok () (W.alloc (.map #[⟨.int .i64 0, .func (.func 91) #[] #[], 0⟩, ⟨.int .i64 26, .func (.func 92) #[] #[], 1⟩, ⟨.int .i64 1, .func (.func 94) #[] #[], 2⟩, ⟨.int .i64 6, .func (.func 94) #[] #[], 3⟩, ⟨.int .i64 2, .func (.func 93) #[] #[], 4⟩, ⟨.int .i64 7, .func (.func 93) #[] #[], 5⟩] 6)) := fun W => h1 W #[⟨.int .i64 0, .func (.func 91) #[] #[], 0⟩, ⟨.int .i64 26, .func (.func 92) #[] #[], 1⟩, ⟨.int .i64 1, .func (.func 94) #[] #[], 2⟩, ⟨.int .i64 6, .func (.func 94) #[] #[], 3⟩, ⟨.int .i64 2, .func (.func 93) #[] #[], 4⟩] 5 7 _ rfl
  clear h1
  go_enter Try.func74, Try.ntmps74
  go_wp2
  go_ret
  exact ⟨_, rfl, heap_alloc_new w _, (Below.refl _ _).alloc (Nat.le_refl _) _⟩
end Go.Proofs.Ytejalfjeihlpeaa

namespace Go.Proofs.Ytejalfjeihlpeaa
open Go.RowKit Go.Acc
/-- A value: its sign and its amount. -/
def valV (s : Bool) (u : Nat) : Value := .agg #[.bool s, .int .u64 (u : Int)]
theorem loadU_64 (l : List UInt8) (a x : Int) : (loadU l a x : Int) < 18446744073709551616 := by
  unfold loadU
  split
  · rename_i h
    have h1 := isW_iff.1 h.1
    have hl := leVal_lt ((l.drop a.toNat).take x.toNat)
    have h8 : ((l.drop a.toNat).take x.toNat).length ≤ 8 := by
      have := List.length_take_le x.toNat (l.drop a.toNat)
      omega
    have := Nat.pow_le_pow_right (n := 2) (by omega) (Nat.mul_le_mul_left 8 h8)
    omega
  · omega
theorem sx_bnd {y u : Nat} (hy : y = 1 ∨ y = 2 ∨ y = 4 ∨ y = 8) (hu : u < 2 ^ (8 * y)) : -9223372036854775808 ≤ sx y u ∧ sx y u ≤ 9223372036854775807 := by
  unfold sx
  rcases hy with rfl | rfl | rfl | rfl <;> split <;> simp at * <;> omega
theorem loadI_64 (l : List UInt8) (a x : Int) : -9223372036854775808 ≤ loadI l a x ∧ loadI l a x ≤ 9223372036854775807 := by
  unfold loadI
  split
  · rename_i h
    have h1 := isW_iff.1 h.1
    have hx := loadU_lt l a x.toNat
    rw [show ((x.toNat : Nat) : Int) = x by omega] at hx
    exact sx_bnd (by omega) hx
  · omega
set_option maxRecDepth 100000 in
set_option maxHeartbeats 400000 in
theorem rd1_spec (A : Option Addr) (n c : Nat) (a x : Int) (w : World) : Calls Try.prog 91 #[.slice A n c, .int .i64 a, .int .i64 x] w fun e w' => e = .returned (valV false 0) ∧ Below w.heap.size w w' := by
  go_enter Try.func91, Try.ntmps91
  go_wp2
  refine bodyPost_ret (v := .agg #[.bool false, .int .u64 0]) (by simp [results, Try.results91, go_sem]) rfl ⟨rfl, ?_⟩
  exact (Below.refl _ _).alloc (Nat.le_refl _) _
set_option maxRecDepth 100000 in
set_option maxHeartbeats 400000 in
theorem without_spec (A : Option Addr) (n c : Nat) (a x : Int) (l : List UInt8) (w : World) (hl : IsB w A n l) (hc : n ≤ c) (hn : n ≤ 9223372036854775807) :
    Calls Try.prog 93 #[.slice A n c, .int .i64 a, .int .i64 x] w fun e w' => e = .returned (valV false (loadU l a x)) ∧ Below w.heap.size w w' := by
  have HL := Lib.hid (hl.alloc (.cells #[.bool false, .int .u64 0] 142))
  have HB := Lib.hid ((Below.refl w.heap.size w).alloc (Nat.le_refl _) (.cells #[.bool false, .int .u64 0] 142))
  have HK := Lib.hid (Blk.new w 142 #[.bool false, .int .u64 0])
  clear hl
  go_enter Try.func93, Try.ntmps93
  go_wp2_with fail
  go_at_call 49
  refine (load_spec A n c a x l _ HL.out hc hn).mono ?_
  rintro e w1 ⟨rfl, hb⟩
  have HB := Lib.hid (pure_below HB.out hb)
  have HK := Lib.hid (HK.out.pure hb)
  have c0 : w1.cell? ⟨w.heap.size, 0, none⟩ = some (.bool false) := HK.out.cell 0
  have c1 : w1.cell? ⟨w.heap.size, 1, none⟩ = some (.int .u64 0) := HK.out.cell 1
  have f0 := HK.out.frozen 0
  have f1 := HK.out.frozen 1
  clear hb
  go_wp2
  refine bodyPost_ret (v := .agg #[.bool false, .int .u64 (loadU l a x)]) (by simp [results, Try.results93, go_sem, c0, c1]) rfl ⟨rfl, ?_⟩
  exact (HB.out.setCell (Nat.le_refl _) _).setCell (Nat.le_refl _) _
set_option maxRecDepth 100000 in
set_option maxHeartbeats 400000 in
theorem rd2_spec (A : Option Addr) (n c : Nat) (a x : Int) (l : List UInt8) (w : World) (hl : IsB w A n l) (hc : n ≤ c) (hn : n ≤ 9223372036854775807) :
    Calls Try.prog 92 #[.slice A n c, .int .i64 a, .int .i64 x] w fun e w' => e = .returned (valV false (min (loadU l a x) 1)) ∧ Below w.heap.size w w' := by
  have HL := Lib.hid (hl.alloc (.cells #[.bool false, .int .u64 0] 142))
  have HB := Lib.hid ((Below.refl w.heap.size w).alloc (Nat.le_refl _) (.cells #[.bool false, .int .u64 0] 142))
  have HK := Lib.hid (Blk.new w 142 #[.bool false, .int .u64 0])
  have hf : ∀ W : World, (Instr.field 142 (.agg #[.bool false, .int .u64 (loadU l a x)]) 1).run Try.prog W = .ok (.int .u64 (loadU l a x)) W := by
    generalize (loadU l a x : Int) = u
    intro W
    kernel_rfl
  have hmin : (if (1 : Int) < (loadU l a x : Int) then (1 : Int) else (loadU l a x : Int)) = ((min (loadU l a x) 1 : Nat) : Int) := by
    split <;> omega
  obtain ⟨m, hm⟩ : ∃ m, min (loadU l a x) 1 = m := ⟨_, rfl⟩
  rw [hm] at hmin ⊢
  clear hl hm
  go_enter Try.func92, Try.ntmps92
  go_wp2_with fail
  go_at_call 93
  refine (without_spec A n c a x l _ HL.out hc hn).mono ?_
  unfold valV
  rintro e w1 ⟨rfl, hb⟩
  have HB := Lib.hid (pure_below HB.out hb)
  have HK := Lib.hid (HK.out.pure hb)
  have c0 : w1.cell? ⟨w.heap.size, 0, none⟩ = some (.bool false) := HK.out.cell 0
  have c1 : w1.cell? ⟨w.heap.size, 1, none⟩ = some (.int .u64 0) := HK.out.cell 1
  have f0 := HK.out.frozen 0
  have f1 := HK.out.frozen 1
  clear hb
  go_wp2
  refine bodyPost_ret (v := .agg #[.bool false, .int .u64 m]) (by simp [results, Try.results92, go_sem, c0, c1]) rfl ⟨rfl, ?_⟩
  exact (HB.out.setCell (Nat.le_refl _) _).setCell (Nat.le_refl _) _
set_option maxRecDepth 100000 in
set_option maxHeartbeats 400000 in
theorem with_spec (A : Option Addr) (n c : Nat) (a x : Int) (l : List UInt8) (w : World) (hl : IsB w A n l) (hc : n ≤ c) (hn : n ≤ 9223372036854775807) :
    Calls Try.prog 94 #[.slice A n c, .int .i64 a, .int .i64 x] w fun e w' => e = .returned (valV (decide (loadI l a x < 0)) (loadI l a x).natAbs) ∧ Below w.heap.size w w' := by
  have HL := Lib.hid (hl.alloc (.cells #[.bool false, .int .u64 0] 142))
  have HB := Lib.hid ((Below.refl w.heap.size w).alloc (Nat.le_refl _) (.cells #[.bool false, .int .u64 0] 142))
  have HK := Lib.hid (Blk.new w 142 #[.bool false, .int .u64 0])
  have hbd := loadI_64 l a x
  have b1 := hbd.1
  have b2 := hbd.2
  obtain ⟨i, hi⟩ : ∃ i, loadI l a x = i := ⟨_, rfl⟩
  rw [hi] at b1 b2 ⊢
  have HI := Lib.hid hi
  clear hl hbd hi
  go_enter Try.func94, Try.ntmps94
  go_wp2_with fail
  go_at_call 58
  refine (loadi_spec A n c a x l _ HL.out hc hn).mono ?_
  rw [HI.out]
  rintro e w1 ⟨rfl, hb⟩
  have HB := Lib.hid (pure_below HB.out hb)
  have HK := Lib.hid (HK.out.pure hb)
  have c0 : w1.cell? ⟨w.heap.size, 0, none⟩ = some (.bool false) := HK.out.cell 0
  have c1 : w1.cell? ⟨w.heap.size, 1, none⟩ = some (.int .u64 0) := HK.out.cell 1
  have f0 := HK.out.frozen 0
  have f1 := HK.out.frozen 1
  clear hb
  by_cases h0 : i < 0
  · have e1 : IntKind.u64.wrap (-IntKind.u64.wrap i) = ((i.natAbs : Nat) : Int) := by simp only [IntKind.wrap_u64]; omega
    have hd : decide (i < 0) = true := decide_eq_true h0
    have HE := Lib.hid e1
    have HD := Lib.hid hd
    clear e1 b1 b2
    go_wp2
    refine bodyPost_ret (v := .agg #[.bool true, .int .u64 (i.natAbs : Nat)]) (by simp [results, Try.results94, go_sem, c0, c1]; try exact HE.out) rfl ⟨by rw [HD.out]; rfl, ?_⟩
    exact (HB.out.setCell (Nat.le_refl _) _).setCell (Nat.le_refl _) _
  · have e1 : IntKind.u64.wrap i = ((i.natAbs : Nat) : Int) := by simp only [IntKind.wrap_u64]; omega
    have hd : decide (i < 0) = false := decide_eq_false h0
    have HE := Lib.hid e1
    have HD := Lib.hid hd
    clear e1 b1 b2
    go_wp2
    refine bodyPost_ret (v := .agg #[.bool false, .int .u64 (i.natAbs : Nat)]) (by simp [results, Try.results94, go_sem, c0, c1]; try exact HE.out) rfl ⟨by rw [HD.out]; rfl, ?_⟩
    exact (HB.out.setCell (Nat.le_refl _) _).setCell (Nat.le_refl _) _
end Go.Proofs.Ytejalfjeihlpeaa
