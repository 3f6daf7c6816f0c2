/-
  Keys in order: one key before another; the search by halves, in plain terms.
  Package find: Find.
  A byte stored into a row of the call's own.
  Package find: contracts for the examples of the chapter.
  Package scalar: the readers, a map of functions.
-/
import Derived.Test.YtejalfjeihlpeaaGreatQ20
import Derived.ScopeJumps
import Derived.WalkMore
import Derived.MapKept
import Derived.Carry
namespace Go.Proofs.YtejalfjeihlpeaaGreat
open Go.RowKit Go.Acc
theorem str_list (s : List UInt8) : (⟨s.toArray⟩ : ByteArray).toList = s := by rw [ByteArray.toList_eq]
theorem bl_drop {x y : List UInt8} {k : Nat} (h1 : k < x.length) (h2 : k < y.length) : Op.bytesLess (x.drop k) (y.drop k) = (decide (x[k] < y[k]) || (x[k] == y[k] && Op.bytesLess (x.drop (k + 1)) (y.drop (k + 1)))) := by
  rw [List.drop_eq_getElem_cons h1, List.drop_eq_getElem_cons h2]
  rfl
theorem bl_end {x y : List UInt8} {k : Nat} (hx : k ≤ x.length) (hy : k ≤ y.length) (h : k = x.length ∨ k = y.length) : Op.bytesLess (x.drop k) (y.drop k) = decide (x.length < y.length) := by
  rcases h with rfl | rfl
  · rw [List.drop_length]
    by_cases h : x.length < y.length
    · rw [List.drop_eq_getElem_cons h, decide_eq_true h]; rfl
    · rw [List.drop_eq_nil_of_le (by omega), decide_eq_false h]; rfl
  · rw [List.drop_length, decide_eq_false (by omega)]
    cases x.drop y.length <;> rfl
/-- The search by halves: f gives error and answer for each index. -/
def bsr (f : Nat → Int × Bool) : Nat → Nat → Nat → Int × Nat
  | 0, lo, _ => (0, lo)
  | fuel + 1, lo, hi => if lo = hi then (0, lo) else if (f (lo + (hi - lo) / 2)).1 ≠ 0 then ((f (lo + (hi - lo) / 2)).1, 0) else if (f (lo + (hi - lo) / 2)).2 = true then bsr f fuel (lo + (hi - lo) / 2 + 1) hi else bsr f fuel lo (lo + (hi - lo) / 2)
theorem bsr_end (f : Nat → Int × Bool) (fuel lo : Nat) : bsr f fuel lo lo = (0, lo) := by cases fuel <;> simp [bsr]
theorem bsr_err {f : Nat → Int × Bool} {fuel lo hi m : Nat} (h : lo < hi) (hf : hi - lo ≤ fuel) (hm : lo + (hi - lo) / 2 = m) (he : (f m).1 ≠ 0) : bsr f fuel lo hi = ((f m).1, 0) := by
  obtain ⟨k, rfl⟩ : ∃ k, fuel = k + 1 := ⟨fuel - 1, by omega⟩
  subst hm
  rw [bsr, if_neg (by omega), if_pos he]
theorem bsr_up {f : Nat → Int × Bool} {fuel lo hi m : Nat} (h : lo < hi) (hf : hi - lo ≤ fuel) (hm : lo + (hi - lo) / 2 = m) (he : (f m).1 = 0) (hl : (f m).2 = true) : bsr f fuel lo hi = bsr f (fuel - 1) (m + 1) hi := by
  obtain ⟨k, rfl⟩ : ∃ k, fuel = k + 1 := ⟨fuel - 1, by omega⟩
  subst hm
  rw [bsr, if_neg (by omega), if_neg (by rw [he]; decide), if_pos hl]
  rfl
theorem bsr_down {f : Nat → Int × Bool} {fuel lo hi m : Nat} (h : lo < hi) (hf : hi - lo ≤ fuel) (hm : lo + (hi - lo) / 2 = m) (he : (f m).1 = 0) (hl : (f m).2 = false) : bsr f fuel lo hi = bsr f (fuel - 1) lo m := by
  obtain ⟨k, rfl⟩ : ∃ k, fuel = k + 1 := ⟨fuel - 1, by omega⟩
  subst hm
  rw [bsr, if_neg (by omega), if_neg (by rw [he]; decide), if_neg (by rw [hl]; decide)]
  rfl

end Go.Proofs.YtejalfjeihlpeaaGreat

/-
  Package find: the search by halves.
-/
namespace Go.Proofs.YtejalfjeihlpeaaGreat
open Go.RowKit Go.Acc
def fiF (l k : List UInt8) (p q t v : Int) (i : Nat) : Int × Bool := (rkE l p q t v i, Op.bytesLess (rkS l p q t v i) k)
end Go.Proofs.YtejalfjeihlpeaaGreat

namespace Go.Proofs.YtejalfjeihlpeaaGreat
open Go.RowKit Go.Acc
def opN (l : List UInt8) (p q t v : Int) : Nat := lsLen l (kyP l p q t v) (kyQ l p q t v) (kyT l p q t v) (kyV l p q t v)
/-- The search: its error, its index. -/
def fdX (l k : List UInt8) (p q t v : Int) : Int × Nat := bsr (fiF l k (kyP l p q t v) (kyQ l p q t v) (kyT l p q t v) (kyV l p q t v)) (opN l p q t v) 0 (opN l p q t v)
/-- The key is there. -/
def fdGo (l k : List UInt8) (p q t v : Int) : Bool :=
  decide (opE l p q t v = 0 ∧ (fdX l k p q t v).1 = 0 ∧ (fdX l k p q t v).2 ≠ opN l p q t v ∧ rkE l (kyP l p q t v) (kyQ l p q t v) (kyT l p q t v) (kyV l p q t v) (fdX l k p q t v).2 = 0 ∧ rkS l (kyP l p q t v) (kyQ l p q t v) (kyT l p q t v) (kyV l p q t v) (fdX l k p q t v).2 = k)
def fdE (l k : List UInt8) (p q t v : Int) : Int :=
  if fdGo l k p q t v = true then atE l p q t v (fdX l k p q t v).2 else if opE l p q t v ≠ 0 then opE l p q t v else if (fdX l k p q t v).1 ≠ 0 then (fdX l k p q t v).1 else if (fdX l k p q t v).2 = opN l p q t v then 0 else rkE l (kyP l p q t v) (kyQ l p q t v) (kyT l p q t v) (kyV l p q t v) (fdX l k p q t v).2
def fdB (l k : List UInt8) (p q t v : Int) : Bool := fdGo l k p q t v && (atE l p q t v (fdX l k p q t v).2 == 0)
def fdP (l k : List UInt8) (p q t v : Int) : Int := if fdGo l k p q t v = true then atP l p q t v (fdX l k p q t v).2 else 0
def fdQ (l k : List UInt8) (p q t v : Int) : Int := if fdGo l k p q t v = true then atQ l p q t v (fdX l k p q t v).2 else 0
def fdT (l k : List UInt8) (p q t v : Int) : Int := if fdGo l k p q t v = true then atT l p q t v (fdX l k p q t v).2 else 0
def fdV (l k : List UInt8) (p q t v : Int) : Int := if fdGo l k p q t v = true then atV l p q t v (fdX l k p q t v).2 else 0
theorem fd_cases (l k : List UInt8) (p q t v : Int) : (opE l p q t v ≠ 0 ∧ fdGo l k p q t v = false ∧ fdE l k p q t v = opE l p q t v) ∨ (opE l p q t v = 0 ∧ (((fdX l k p q t v).1 ≠ 0 ∧ fdGo l k p q t v = false ∧ fdE l k p q t v = (fdX l k p q t v).1) ∨ ((fdX l k p q t v).1 = 0 ∧
    (((fdX l k p q t v).2 = opN l p q t v ∧ fdGo l k p q t v = false ∧ fdE l k p q t v = 0) ∨ ((fdX l k p q t v).2 ≠ opN l p q t v ∧ ((rkE l (kyP l p q t v) (kyQ l p q t v) (kyT l p q t v) (kyV l p q t v) (fdX l k p q t v).2 ≠ 0 ∧ fdGo l k p q t v = false ∧ fdE l k p q t v = rkE l (kyP l p q t v) (kyQ l p q t v) (kyT l p q t v) (kyV l p q t v) (fdX l k p q t v).2) ∨
      (rkE l (kyP l p q t v) (kyQ l p q t v) (kyT l p q t v) (kyV l p q t v) (fdX l k p q t v).2 = 0 ∧ ((rkS l (kyP l p q t v) (kyQ l p q t v) (kyT l p q t v) (kyV l p q t v) (fdX l k p q t v).2 ≠ k ∧ fdGo l k p q t v = false ∧ fdE l k p q t v = 0) ∨ (rkS l (kyP l p q t v) (kyQ l p q t v) (kyT l p q t v) (kyV l p q t v) (fdX l k p q t v).2 = k ∧ fdGo l k p q t v = true ∧ fdE l k p q t v = atE l p q t v (fdX l k p q t v).2))))))))) := by
  unfold fdE
  by_cases h1 : opE l p q t v = 0
  · refine .inr ⟨h1, ?_⟩
    by_cases h2 : (fdX l k p q t v).1 = 0
    · refine .inr ⟨h2, ?_⟩
      by_cases h3 : (fdX l k p q t v).2 = opN l p q t v
      · have hg : fdGo l k p q t v = false := decide_eq_false (fun h => h.2.2.1 h3)
        refine .inl ⟨h3, hg, ?_⟩
        rw [if_neg (by rw [hg]; decide), if_neg (by rw [h1]; decide), if_neg (by rw [h2]; decide), if_pos h3]
      · refine .inr ⟨h3, ?_⟩
        by_cases h4 : rkE l (kyP l p q t v) (kyQ l p q t v) (kyT l p q t v) (kyV l p q t v) (fdX l k p q t v).2 = 0
        · refine .inr ⟨h4, ?_⟩
          by_cases h5 : rkS l (kyP l p q t v) (kyQ l p q t v) (kyT l p q t v) (kyV l p q t v) (fdX l k p q t v).2 = k
          · have hg : fdGo l k p q t v = true := decide_eq_true ⟨h1, h2, h3, h4, h5⟩
            exact .inr ⟨h5, hg, by rw [if_pos hg]⟩
          · have hg : fdGo l k p q t v = false := decide_eq_false (fun h => h5 h.2.2.2.2)
            refine .inl ⟨h5, hg, ?_⟩
            rw [if_neg (by rw [hg]; decide), if_neg (by rw [h1]; decide), if_neg (by rw [h2]; decide), if_neg h3, h4]
        · have hg : fdGo l k p q t v = false := decide_eq_false (fun h => h4 h.2.2.2.1)
          refine .inl ⟨h4, hg, ?_⟩
          rw [if_neg (by rw [hg]; decide), if_neg (by rw [h1]; decide), if_neg (by rw [h2]; decide), if_neg h3]
    · have hg : fdGo l k p q t v = false := decide_eq_false (fun h => h2 h.2.1)
      refine .inl ⟨h2, hg, ?_⟩
      rw [if_neg (by rw [hg]; decide), if_neg (by rw [h1]; decide), if_pos h2]
  · have hg : fdGo l k p q t v = false := decide_eq_false (fun h => h1 h.1)
    refine .inl ⟨h1, hg, ?_⟩
    rw [if_neg (by rw [hg]; decide), if_pos h1]
def FdW (w : World) (l k : List UInt8) (p q t v : Int) (e : Ending) (w' : World) : Prop :=
  e = .returned (.tuple #[.agg #[.int .i64 (fdP l k p q t v), .int .i64 (fdQ l k p q t v), .int .i64 (fdT l k p q t v), .int .i64 (fdV l k p q t v)], .bool (fdB l k p q t v), .int .i64 (fdE l k p q t v)]) ∧ Below w.heap.size w w'
theorem fdw_no {w w' : World} {l k : List UInt8} {p q t v er : Int} (hg : fdGo l k p q t v = false) (h : fdE l k p q t v = er) (hb : Below w.heap.size w w') :
    FdW w l k p q t v (.returned (.tuple #[.agg #[.int .i64 0, .int .i64 0, .int .i64 0, .int .i64 0], .bool false, .int .i64 er])) w' := by
  unfold FdW fdB fdP fdQ fdT fdV
  rw [h, hg]
  exact ⟨rfl, hb⟩
theorem fdw_yes {w w' : World} {l k : List UInt8} {p q t v a b d g er : Int} {i : Nat} (hg : fdGo l k p q t v = true) (h : fdE l k p q t v = atE l p q t v (fdX l k p q t v).2) (hi : (fdX l k p q t v).2 = i)
    (h1 : atP l p q t v i = a) (h2 : atQ l p q t v i = b) (h3 : atT l p q t v i = d) (h4 : atV l p q t v i = g) (h5 : atE l p q t v i = er) (hb : Below w.heap.size w w') :
    FdW w l k p q t v (.returned (.tuple #[.agg #[.int .i64 a, .int .i64 b, .int .i64 d, .int .i64 g], .bool (er == 0), .int .i64 er])) w' := by
  unfold FdW fdB fdP fdQ fdT fdV
  rw [h, hg, hi, h1, h2, h3, h4, h5]
  exact ⟨rfl, hb⟩
end Go.Proofs.YtejalfjeihlpeaaGreat

/-
  Package find's reference: Find.
-/
namespace Go.Proofs.YtejalfjeihlpeaaGreat
open Go.RowKit Go.Acc
theorem fndL_len (l : List UInt8) (p q t v : Int) (ts : List Nat) : (fndL l p q t v ts).length ≤ l.length := by
  unfold fndL keyL cntL
  split
  · split <;> (rw [List.length_take, List.length_drop]; omega)
  · exact Nat.zero_le _
theorem rkS_len (l : List UInt8) (p q t v i : Int) : (rkS l p q t v i).length ≤ l.length := by
  unfold rkS
  split
  · exact Nat.zero_le _
  · exact fndL_len _ _ _ _ _ _
end Go.Proofs.YtejalfjeihlpeaaGreat

namespace Go.Proofs.YtejalfjeihlpeaaGreat
open Go.RowKit Go.Acc
theorem own_setB {w : World} {B g n c i : Nat} {l : List UInt8} (h : OwnB w B (some ⟨g, 0, none⟩) n c l) (hi : i < n) (b : UInt8) :
    (w.frozen? ⟨g, i, none⟩ = false ∧ ∃ u, w.cell? ⟨g, i, none⟩ = some u) ∧ OwnB (w.setCell ⟨g, i, none⟩ (.int .u8 (b.toNat : Int))) B (some ⟨g, 0, none⟩) n c (l.take i ++ [b] ++ l.drop (i + 1)) := by
  obtain ⟨cur, hK, hsz, hback⟩ := own_seg h
  refine ⟨⟨hK.frozen i, _, (hK.cell i).trans (Array.getElem?_eq_getElem (by omega))⟩, hback _ _ i 1 [b] (hK.set_ i _) ?_ rfl (by omega)⟩
  have := (Seg.zero cur i ([b].flatMap bc)).step (v := .int .u8 (b.toNat : Int)) rfl (by omega)
  exact this
theorem own_some {w : World} {B n c : Nat} {A : Option Addr} {l : List UInt8} (h : OwnB w B A n c l) (hn : 0 < n) : ∃ g, A = some ⟨g, 0, none⟩ ∧ B ≤ g := by
  cases A with
  | none => exact absurd (h.is.none_ bc_len (by omega)).2 (by omega)
  | some ad =>
    obtain ⟨h1, h2, _⟩ := h.addr ad rfl
    exact ⟨ad.block, by rw [h1], h2⟩
theorem isb_vs_ {w : World} {g n : Nat} {vs : Array Value} (hg : w.heap.size = g) (hn : vs.size = n) (h : vs.toList = (unb vs).flatMap bc) : IsB (w.alloc (.cells vs 5)) (some ⟨g, 0, none⟩) n (unb vs) := by
  subst hg
  exact isb_vs w vs n hn h
end Go.Proofs.YtejalfjeihlpeaaGreat

namespace Go.Proofs.YtejalfjeihlpeaaGreat
open Go.RowKit Go.Acc
theorem fkeys_is (A : Option Addr) (n c : Nat) (p q t v a b d g er : Int) (l : List UInt8) (w : World) (h : IsB w A n l) (hc : n ≤ c) (hn : n ≤ 1099511627776) (h1 : kyP l p q t v = a) (h2 : kyQ l p q t v = b) (h3 : kyT l p q t v = d) (h4 : kyV l p q t v = g) (h5 : kyE l p q t v = er) :
    Calls Tryz.prog 73 #[.slice A n c, .agg #[.int .i64 p, .int .i64 q, .int .i64 t, .int .i64 v]] w fun e w' => e = .returned (.tuple #[.agg #[.int .i64 a, .int .i64 b, .int .i64 d, .int .i64 g], .int .i64 er]) ∧ Below w.heap.size w w' := by
  subst h1 h2 h3 h4 h5
  exact fkeys_spec A n c p q t v l w h hc hn
theorem rfkeys_is (A : Option Addr) (n c : Nat) (p q t v a b d g er : Int) (l : List UInt8) (w : World) (h : IsB w A n l) (hn : n ≤ 1099511627776) (h1 : kyP l p q t v = a) (h2 : kyQ l p q t v = b) (h3 : kyT l p q t v = d) (h4 : kyV l p q t v = g) (h5 : kyE l p q t v = er) :
    Calls Tryz.prog 78 #[.slice A n c, .agg #[.int .i64 p, .int .i64 q, .int .i64 t, .int .i64 v]] w fun e w' => e = .returned (.tuple #[.agg #[.int .i64 a, .int .i64 b, .int .i64 d, .int .i64 g], .int .i64 er]) ∧ Below w.heap.size w w' := by
  subst h1 h2 h3 h4 h5
  exact rfkeys_spec A n c p q t v l w h hn
def ex25 (i : Nat) (c : UInt8) : List UInt8 := ([97, 0, 98, 0, 2, 5, 4, 2, 1, 2, 0, 1, 0, 4, 4, 36, 1] : List UInt8).set i c
theorem bc_set (l : List UInt8) (i : Nat) (c : UInt8) : (l.set i c).flatMap bc = (l.flatMap bc).set i (.int .u8 (c.toNat : Int)) := by
  have h : ∀ m : List UInt8, m.flatMap bc = m.map fun x => Value.int .u8 (x.toNat : Int) := by
    intro m
    induction m with
    | nil => rfl
    | cons x m ih => rw [List.flatMap_cons, ih]; rfl
  rw [h, h, List.map_set]
end Go.Proofs.YtejalfjeihlpeaaGreat

/-
  Package find: the examples of the chapter.
-/
namespace Go.Proofs.YtejalfjeihlpeaaGreat
open Go.RowKit Go.Acc
def d25 : List UInt8 := ex25 0 97
theorem w25_1 : kyP d25 14 1 9 1 = 7 ∧ kyQ d25 14 1 9 1 = 1 ∧ kyT d25 14 1 9 1 = 14 ∧ kyV d25 14 1 9 1 = 1 ∧ kyE d25 14 1 9 1 = 0 := by decide
theorem w25_2 : kyP (ex25 8 3) 14 1 9 1 = 0 ∧ kyQ (ex25 8 3) 14 1 9 1 = 0 ∧ kyT (ex25 8 3) 14 1 9 1 = 0 ∧ kyV (ex25 8 3) 14 1 9 1 = 0 ∧ kyE (ex25 8 3) 14 1 9 1 = 212 := by decide
theorem w25_3 : kyP [5, 4, 1] 0 1 1 1 = 0 ∧ kyQ [5, 4, 1] 0 1 1 1 = 0 ∧ kyT [5, 4, 1] 0 1 1 1 = 0 ∧ kyV [5, 4, 1] 0 1 1 1 = 0 ∧ kyE [5, 4, 1] 0 1 1 1 = 60 := by decide
theorem w25_4 : kaS d25 14 1 9 1 0 = [97] ∧ kaE d25 14 1 9 1 0 = 0 := by decide
theorem w25_5 : kaS d25 14 1 9 1 2 = [] ∧ kaE d25 14 1 9 1 2 = 6 := by decide
theorem w25_6 : fdP d25 [98] 14 1 9 1 = 11 ∧ fdQ d25 [98] 14 1 9 1 = 1 ∧ fdT d25 [98] 14 1 9 1 = 1 ∧ fdV d25 [98] 14 1 9 1 = 1 ∧ fdB d25 [98] 14 1 9 1 = true ∧ fdE d25 [98] 14 1 9 1 = 0 := by decide
theorem w25_7 : fdP d25 [99] 14 1 9 1 = 0 ∧ fdQ d25 [99] 14 1 9 1 = 0 ∧ fdT d25 [99] 14 1 9 1 = 0 ∧ fdV d25 [99] 14 1 9 1 = 0 ∧ fdB d25 [99] 14 1 9 1 = false ∧ fdE d25 [99] 14 1 9 1 = 0 := by decide
theorem w25_8 : fdP d25 [] 14 1 9 1 = 0 ∧ fdQ d25 [] 14 1 9 1 = 0 ∧ fdT d25 [] 14 1 9 1 = 0 ∧ fdV d25 [] 14 1 9 1 = 0 ∧ fdB d25 [] 14 1 9 1 = false ∧ fdE d25 [] 14 1 9 1 = 0 := by decide
theorem w25_9 : kaS (ex25 4 1) 14 1 9 1 0 = [] ∧ kaE (ex25 4 1) 14 1 9 1 0 = 214 := by decide
theorem w25_10 : kaS (ex25 5 6) 14 1 9 1 0 = [] ∧ kaE (ex25 5 6) 14 1 9 1 0 = 211 := by decide
theorem lsetA {w : World} {g i g' j : Nat} {u v : Value} (h : w.cell? ⟨g, i, none⟩ = some v) (hne : g ≠ g') : (w.setCell ⟨g', j, none⟩ u).cell? ⟨g, i, none⟩ = some v := lset h hne
end Go.Proofs.YtejalfjeihlpeaaGreat

namespace Go.Acc
open Go.RowKit
section
variable {P : Program} {mt kt et : TypeId}
/-- Storing under a new integer key into the map that was made last. -/
theorem run_ins (hu : P.underlying mt = some (.map kt et)) (hk : P.underlying kt = some (.int .i64)) (W : World) (es : Array MapEntry) (c g : Nat) (x : Int) (v : Value) (hg : g = W.heap.size)
    (hn : Instr.findNow (.int .i64) (.int .i64 x) es.toList 0 = some none) :
    (Instr.mapUpdate mt (.map (some g)) (.int .i64 x) v).run P (W.alloc (.map es c)) = .ok () (W.alloc (.map (es.push { key := .int .i64 x, val := v, born := c }) (c + 1))) := by
  subst hg
  have hb : (W.alloc (.map es c)).heap[W.heap.size]? = some (.map es c) := heap_alloc_new W _
  have e : ∀ o o' : Obj, (W.heap.push o).setIfInBounds W.heap.size o' = W.heap.push o' := by
    intro o o'
    apply Array.ext_getElem?
    intro i
    rw [Array.getElem?_setIfInBounds, Array.getElem?_push, Array.getElem?_push]
    by_cases h : W.heap.size = i
    · subst h; simp
    · rw [if_neg h, if_neg (fun e => h e.symm)]; rw [if_neg (fun e => h e.symm)]
  have h1 : (Instr.checkKey false 10000 kt (.int .i64 x)).run P (W.alloc (.map es c)) = .ok () (W.alloc (.map es c)) := MapKept.run_checkKey (n := 9999) (k := .int .i64 x) hk rfl false
  have h2 : (Instr.findKey kt (.int .i64 x) es.toList).run P (W.alloc (.map es c)) = .ok none (W.alloc (.map es c)) := MapKept.run_findKey hk hn
  have h3 := MapKept.run_setObj_map (P := P) (.map (es.push { key := .int .i64 x, val := v, born := c }) (c + 1)) hb
  simp only [Instr.mapUpdate, Sem.run_bind, run_underlying hu, Result.andThen_ok, MapKept.run_getObj_map hb, h1, h2, h3]
  simp only [World.alloc, e]
/-- Looking up an integer key. -/
theorem run_look (hu : P.underlying mt = some (.map kt et)) (hk : P.underlying kt = some (.int .i64)) (z : Value) (hz : ∀ W, (zeroValue et).run P W = .ok z W) (W : World) (es : Array MapEntry) (c g : Nat) (x : Int) (b : Bool) (r : Option (Nat × Value))
    (hb : W.heap[g]? = some (.map es c)) (hn : Instr.findNow (.int .i64) (.int .i64 x) es.toList 0 = some r) :
    (Instr.lookup mt (.map (some g)) (.int .i64 x) b).run P W = .ok (if b then .tuple #[(r.map (·.2)).getD z, .bool r.isSome] else (r.map (·.2)).getD z) W := by
  have h1 : (Instr.checkKey es.isEmpty 10000 kt (.int .i64 x)).run P W = .ok () W := MapKept.run_checkKey (n := 9999) (k := .int .i64 x) hk rfl _
  have h2 : (Instr.findKey kt (.int .i64 x) es.toList).run P W = .ok r W := MapKept.run_findKey hk hn
  cases r with
  | none =>
    simp only [Instr.lookup, Sem.run_bind, run_underlying hu, Result.andThen_ok, MapKept.run_getObj_map hb, h1, h2, hz, Sem.run_pure]
    rfl
  | some p =>
    obtain ⟨i, u⟩ := p
    simp only [Instr.lookup, Sem.run_bind, run_underlying hu, Result.andThen_ok, MapKept.run_getObj_map hb, h1, h2, Sem.run_pure]
    rfl
end
end Go.Acc
namespace Go.Proofs.YtejalfjeihlpeaaGreat
open Go.RowKit Go.Acc
/-- The entries of the map. -/
def rdEs : Array MapEntry := #[⟨.int .i64 0, .func (.func 140) #[] #[], 0⟩, ⟨.int .i64 26, .func (.func 141) #[] #[], 1⟩, ⟨.int .i64 1, .func (.func 143) #[] #[], 2⟩, ⟨.int .i64 6, .func (.func 143) #[] #[], 3⟩, ⟨.int .i64 2, .func (.func 142) #[] #[], 4⟩, ⟨.int .i64 7, .func (.func 142) #[] #[], 5⟩]
/-- The function that reads a type. -/
def rdF (t : Int) : Option Value := if t = 0 then some (.func (.func 140) #[] #[]) else if t = 26 then some (.func (.func 141) #[] #[]) else if t = 1 ∨ t = 6 then some (.func (.func 143) #[] #[]) else if t = 2 ∨ t = 7 then some (.func (.func 142) #[] #[]) else none
theorem rd_find (t : Int) : ∃ r, Instr.findNow (.int .i64) (.int .i64 t) rdEs.toList 0 = some r ∧ r.map (·.2) = rdF t := by
  by_cases h0 : t = 0
  · subst h0; exact ⟨_, rfl, rfl⟩
  by_cases h1 : t = 26
  · subst h1; exact ⟨_, rfl, rfl⟩
  by_cases h2 : t = 1
  · subst h2; exact ⟨_, rfl, rfl⟩
  by_cases h3 : t = 6
  · subst h3; exact ⟨_, rfl, rfl⟩
  by_cases h4 : t = 2
  · subst h4; exact ⟨_, rfl, rfl⟩
  by_cases h5 : t = 7
  · subst h5; exact ⟨_, rfl, rfl⟩
  refine ⟨none, ?_, ?_⟩
  · have e0 : (t == 0) = false := by simpa using h0
    have e1 : (t == 26) = false := by simpa using h1
    have e2 : (t == 1) = false := by simpa using h2
    have e3 : (t == 6) = false := by simpa using h3
    have e4 : (t == 2) = false := by simpa using h4
    have e5 : (t == 7) = false := by simpa using h5
    simp only [rdEs, Instr.findNow, Instr.sameNow, if_true, e0, e1, e2, e3, e4, e5]
  · simp [rdF, h0, h1, h2, h3, h4, h5]
def RdW (w : World) (e : Ending) (w' : World) : Prop := ∃ g, e = .returned (.map (some g)) ∧ w'.heap[g]? = some (.map rdEs 6) ∧ Below w.heap.size w w'
set_option maxRecDepth 100000 in
set_option maxHeartbeats 400000 in
theorem readers_spec (w : World) : Calls Tryz.prog 123 #[] w (RdW w) := by
  have h0 := run_makeMap (P := Tryz.prog) 143
  have h1 : ∀ (W : World) (es : Array MapEntry) (c : Nat) (x : Int) (v : Value), Instr.findNow (.int .i64) (.int .i64 x) es.toList 0 = some none → (Instr.mapUpdate 143 (.map (some W.heap.size)) (.int .i64 x) v).run Tryz.prog (W.alloc (.map es c)) = .ok () (W.alloc (.map (es.push { key := .int .i64 x, val := v, born := c }) (c + 1))) :=
    fun W es c x v h => run_ins Tryz.underlying143 Tryz.underlying3 W es c _ x v rfl h
  have i0 : ∀ W : World, (Instr.mapUpdate 143 (.map (some W.heap.size)) (.int .i64 0) (.func (.func 140) #[] #[])).run Tryz.prog (W.alloc (.map #[] 0)) = .ok () (W.alloc (.map #[⟨.int .i64 0, .func (.func 140) #[] #[], 0⟩] 1)) := fun W => h1 W #[] 0 0 _ rfl
  have i1 : ∀ W : World, (Instr.mapUpdate 143 (.map (some W.heap.size)) (.int .i64 26) (.func (.func 141) #[] #[])).run Tryz.prog (W.alloc (.map #[⟨.int .i64 0, .func (.func 140) #[] #[], 0⟩] 1)) = .ok () (W.alloc (.map #[⟨.int .i64 0, .func (.func 140) #[] #[], 0⟩, ⟨.int .i64 26, .func (.func 141) #[] #[], 1⟩] 2)) := fun W => h1 W #[⟨.int .i64 0, .func (.func 140) #[] #[], 0⟩] 1 26 _ rfl
  have i2 : ∀ W : World, (Instr.mapUpdate 143 (.map (some W.heap.size)) (.int .i64 1) (.func (.func 143) #[] #[])).run Tryz.prog (W.alloc (.map #[⟨.int .i64 0, .func (.func 140) #[] #[], 0⟩, ⟨.int .i64 26, .func (.func 141) #[] #[], 1⟩] 2)) = .ok () (W.alloc (.map #[⟨.int .i64 0, .func (.func 140) #[] #[], 0⟩, ⟨.int .i64 26, .func (.func 141) #[] #[], 1⟩, ⟨.int .i64 1, .func (.func 143) #[] #[], 2⟩] 3)) := fun W => h1 W #[⟨.int .i64 0, .func (.func 140) #[] #[], 0⟩, ⟨.int .i64 26, .func (.func 141) #[] #[], 1⟩] 2 1 _ rfl
  have i3 : ∀ W : World, (Instr.mapUpdate 143 (.map (some W.heap.size)) (.int .i64 6) (.func (.func 143) #[] #[])).run Tryz.prog (W.alloc (.map #[⟨.int .i64 0, .func (.func 140) #[] #[], 0⟩, ⟨.int .i64 26, .func (.func 141) #[] #[], 1⟩, ⟨.int .i64 1, .func (.func 143) #[] #[], 2⟩] 3)) = .ok () (W.alloc (.map #[⟨.int .i64 0, .func (.func 140) #[] #[], 0⟩, ⟨.int .i64 26, .func (.func 141) #[] #[], 1⟩, ⟨.int .i64 1, .func (.func 143) #[] #[], 2⟩, ⟨.int .i64 6, .func (.func 143) #[] #[], 3⟩] 4)) := fun W => h1 W #[⟨.int .i64 0, .func (.func 140) #[] #[], 0⟩, ⟨.int .i64 26, .func (.func 141) #[] #[], 1⟩, ⟨.int .i64 1, .func (.func 143) #[] #[], 2⟩] 3 6 _ rfl
  have i4 : ∀ W : World, (Instr.mapUpdate 143 (.map (some W.heap.size)) (.int .i64 2) (.func (.func 142) #[] #[])).run Tryz.prog (W.alloc (.map #[⟨.int .i64 0, .func (.func 140) #[] #[], 0⟩, ⟨.int .i64 26, .func (.func 141) #[] #[], 1⟩, ⟨.int .i64 1, .func (.func 143) #[] #[], 2⟩, ⟨.int .i64 6, .func (.func 143) #[] #[], 3⟩] 4)) = .ok () (W.alloc (.map #[⟨.int .i64 0, .func (.func 140) #[] #[], 0⟩, ⟨.int .i64 26, .func (.func 141) #[] #[], 1⟩, ⟨.int .i64 1, .func (.func 143) #[] #[], 2⟩, ⟨.int .i64 6, .func (.func 143) #[] #[], 3⟩, ⟨.int .i64 2, .func (.func 142) #[] #[], 4⟩] 5)) := fun W => h1 W #[⟨.int .i64 0, .func (.func 140) #[] #[], 0⟩, ⟨.int .i64 26, .func (.func 141) #[] #[], 1⟩, ⟨.int .i64 1, .func (.func 143) #[] #[], 2⟩, ⟨.int .i64 6, .func (.func 143) #[] #[], 3⟩] 4 2 _ rfl
  have i5 : ∀ W : World, (Instr.mapUpdate 143 (.map (some W.heap.size)) (.int .i64 7) (.func (.func 142) #[] #[])).run Tryz.prog (W.alloc (.map #[⟨.int .i64 0, .func (.func 140) #[] #[], 0⟩, ⟨.int .i64 26, .func (.func 141) #[] #[], 1⟩, ⟨.int .i64 1, .func (.func 143) #[] #[], 2⟩, ⟨.int .i64 6, .func (.func 143) #[] #[], 3⟩, ⟨.int .i64 2, .func (.func 142) #[] #[], 4⟩] 5)) = .ok () (W.alloc (.map #[⟨.int .i64 0, .func (.func 140) #[] #[], 0⟩, ⟨.int .i64 26, .func (.func 141) #[] #[], 1⟩, ⟨.int .i64 1, .func (.func 143) #[] #[], 2⟩, ⟨.int .i64 6, .func (.func 143) #[] #[], 3⟩, ⟨.int .i64 2, .func (.func 142) #[] #[], 4⟩, ⟨.int .i64 7, .func (.func 142) #[] #[], 5⟩] 6)) := fun W => h1 W #[⟨.int .i64 0, .func (.func 140) #[] #[], 0⟩, ⟨.int .i64 26, .func (.func 141) #[] #[], 1⟩, ⟨.int .i64 1, .func (.func 143) #[] #[], 2⟩, ⟨.int .i64 6, .func (.func 143) #[] #[], 3⟩, ⟨.int .i64 2, .func (.func 142) #[] #[], 4⟩] 5 7 _ rfl
  clear h1
  go_enter Tryz.func123, Tryz.ntmps123
  go_wp2
  go_ret
  exact ⟨_, rfl, heap_alloc_new w _, (Below.refl _ _).alloc (Nat.le_refl _) _⟩
end Go.Proofs.YtejalfjeihlpeaaGreat
