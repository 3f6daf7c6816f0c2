/-
  Words and small laws for memory, used by all walks of this seat: a slice that reads as a list of cells, a block known whole, what a call leaves alone, append onto a row of the call's own.
  The plain table of the types: category, element type, number of elements, kind.
-/
import Derived.Test.YtfoifdoaleaekaaGreatRows
import Derived.WalkKit
import Derived.WalkSpells
import Derived.WalkLawsBesides
import Derived.Below
import Derived.Laws.OwnMore
import Derived.Deep.AppendLies
import Derived.Deep.Draws
import Derived.Laws.Rows
import Derived.Maps.AppendAt
import Derived.RegionTactic
import Derived.OwnWalk
import Derived.Deep.QuietTactic
import Derived.BigQuiet
import Derived.Lib.Hide
import Derived.Deep.Slices
import Derived.Deep.Fields
import Derived.Deep.RegionHeld3
import Derived.ChangeSame
import Derived.ProofKit
import Derived.OpenShut
namespace Go.Acc
open Go.RowKit Go.ChangeShapes Go.WideShapes Go.Deep

theorem add_none (b off j : Nat) : (⟨b, off, none⟩ : Addr).add j = ⟨b, off + j, none⟩ := by
  unfold Addr.add; split <;> simp_all
theorem spot_of_cell {w : World} {a : Addr} {u : Value} (h : w.cell? a = some u) : a.spot = none := by
  unfold World.cell? at h
  split at h
  · split at h
    · cases h
    · rename_i hs; simpa using hs
  · cases h

def Rd (w : World) (A : Option Addr) (xs : List Value) : Prop :=
  ∀ j u, xs[j]? = some u → ∃ b off, A = some ⟨b, off, none⟩ ∧ w.cell? ⟨b, off + j, none⟩ = some u

structure Fr (S : Nat → Prop) (w w' : World) : Prop where
  os : w'.os = w.os
  tape : w'.tape = w.tape
  output : w'.output = w.output
  size : w.heap.size ≤ w'.heap.size
  block : ∀ k, k < w.heap.size → ¬ S k → w'.heap[k]? = w.heap[k]?

section
variable {w w' w'' : World} {S T : Nat → Prop} {A : Option Addr} {xs ys : List Value}

theorem Fr.refl (S : Nat → Prop) (w : World) : Fr S w w := ⟨rfl, rfl, rfl, Nat.le_refl _, fun _ _ _ => rfl⟩
theorem Fr.trans (h : Fr S w w') (k : Fr T w' w'') (hT : ∀ i, i < w.heap.size → T i → S i) : Fr S w w'' :=
  ⟨k.os.trans h.os, k.tape.trans h.tape, k.output.trans h.output, Nat.le_trans h.size k.size,
    fun i hi hs => (k.block i (Nat.lt_of_lt_of_le hi h.size) (fun ht => hs (hT i hi ht))).trans (h.block i hi hs)⟩
theorem Fr.mono (h : Fr S w w') (hT : ∀ i, i < w.heap.size → S i → T i) : Fr T w w' :=
  ⟨h.os, h.tape, h.output, h.size, fun i hi hs => h.block i hi (fun hS => hs (hT i hi hS))⟩
theorem Fr.of_below (h : Below w.heap.size w w') (S : Nat → Prop) : Fr S w w' := ⟨h.os, h.tape, h.output, h.size, fun i hi _ => h.block i hi⟩
theorem Fr.below (h : Fr S w w') (hS : ∀ i, i < w.heap.size → ¬ S i) : Below w.heap.size w w' := ⟨h.os, h.tape, h.output, h.size, fun i hi => h.block i hi (hS i hi)⟩
theorem Fr.belowB {B : Nat} (h : Fr S w w') (hS : ∀ i, i < B → ¬ S i) (hB : B ≤ w.heap.size) : Below B w w' := ⟨h.os, h.tape, h.output, h.size, fun i hi => h.block i (by omega) (hS i hi)⟩
theorem Fr.of_grown {row : Option Nat} (h : w.grownBy w' row) : Fr (fun k => some k = row) w w' := ⟨h.os, h.tape, h.output, h.size, fun i hi hs => h.block i hi hs⟩
theorem Fr.drew (h : Fr S w w') : Fr S w w'.drew := ⟨h.os, h.tape, h.output, h.size, h.block⟩
theorem Fr.drewN (h : Fr S w w') (n : Nat) : Fr S w (w'.drewN n) := ⟨h.os, h.tape, h.output, h.size, h.block⟩
theorem Fr.alloc (h : Fr S w w') (o : Obj) : Fr S w (w'.alloc o) :=
  ⟨h.os, h.tape, h.output, Nat.le_trans h.size (by simp), fun i hi hs => (Below.heap_alloc w' o i (Nat.lt_of_lt_of_le hi h.size)).trans (h.block i hi hs)⟩
theorem Fr.setCell (h : Fr S w w') {p : Addr} (hp : p.block < w.heap.size → S p.block) (u : Value) : Fr S w (w'.setCell p u) :=
  ⟨h.os, h.tape, h.output, by simpa [World.setCell] using h.size, fun i hi hs => (Below.heap_setCell w' p u i (by
    rintro rfl
    exact hs (hp hi))).trans (h.block i hi hs)⟩
theorem Fr.cell (h : Fr S w w') {p : Addr} (hp : p.block < w.heap.size) (hs : ¬ S p.block) : w'.cell? p = w.cell? p := World.cell?_of_block (w := w) (h.block p.block hp hs)
theorem Fr.frozen (h : Fr S w w') {p : Addr} (hp : p.block < w.heap.size) (hs : ¬ S p.block) : w'.frozen? p = w.frozen? p := World.frozen?_of_block (w := w) (h.block p.block hp hs)

theorem lt_of_cell {p : Addr} {u : Value} (h : w.cell? p = some u) : p.block < w.heap.size := World.block_lt_of_cell? w p h
theorem cell_pure (hb : Below w.heap.size w w') {p : Addr} {u : Value} (h : w.cell? p = some u) : w'.cell? p = some u := (hb.cell (lt_of_cell h)).trans h
theorem cell_fr (hb : Fr S w w') {p : Addr} {u : Value} (h : w.cell? p = some u) (hs : ¬ S p.block) : w'.cell? p = some u := (hb.cell (lt_of_cell h) hs).trans h

theorem pure_trans (h : Below w.heap.size w w') (k : Below w'.heap.size w' w'') : Below w.heap.size w w'' := h.trans (k.mono h.size)
theorem pure_below {B : Nat} {a w w' : World} (h : Below B a w) (k : Below w.heap.size w w') (hB : B ≤ a.heap.size := by exact Nat.le_refl _) : Below B a w' := h.trans (k.mono (Nat.le_trans hB h.size))
theorem Rd.nil (w : World) (A : Option Addr) : Rd w A [] := fun j u h => by simp at h
theorem Rd.keep (h : Rd w A xs) (hk : ∀ p u, w.cell? p = some u → (∀ ad, A = some ad → p.block = ad.block) → w'.cell? p = some u) : Rd w' A xs := by
  intro j u hu
  obtain ⟨b, off, rfl, hc⟩ := h j u hu
  exact ⟨b, off, rfl, hk _ _ hc (fun ad had => by injection had with had; subst had; rfl)⟩
theorem Rd.pure (h : Rd w A xs) (hb : Below w.heap.size w w') : Rd w' A xs := h.keep fun _ _ hc _ => cell_pure hb hc
theorem Rd.fr (h : Rd w A xs) (hb : Fr S w w') (hs : ∀ ad, A = some ad → ¬ S ad.block) : Rd w' A xs := by
  intro j u hu
  obtain ⟨b, off, rfl, hc⟩ := h j u hu
  exact ⟨b, off, rfl, cell_fr hb hc (hs ⟨b, off, none⟩ rfl)⟩
theorem Rd.drew (h : Rd w A xs) : Rd w.drew A xs := h
theorem Rd.drewN (h : Rd w A xs) (k : Nat) : Rd (w.drewN k) A xs := h
theorem Rd.alloc (h : Rd w A xs) (o : Obj) : Rd (w.alloc o) A xs := h.pure ((Below.refl _ _).alloc (Nat.le_refl _) o)
theorem Rd.at_ {j : Nat} (h : Rd w A xs) (hj : j < xs.length) : ∃ b off, A = some ⟨b, off, none⟩ ∧ w.cell? ⟨b, off + j, none⟩ = some xs[j] := h j _ (List.getElem?_eq_getElem hj)
theorem Rd.lt (h : Rd w A xs) (hn : 0 < xs.length) : ∃ b off, A = some ⟨b, off, none⟩ ∧ b < w.heap.size := by
  obtain ⟨b, off, e, hc⟩ := h.at_ hn
  exact ⟨b, off, e, lt_of_cell hc⟩
theorem Rd.take (h : Rd w A xs) (n : Nat) : Rd w A (xs.take n) := by
  intro j u hu
  rw [List.getElem?_take] at hu
  split at hu
  · exact h j u hu
  · cases hu
theorem Rd.drop (h : Rd w A xs) (n : Nat) {c k : Nat} (hc : c = k → xs.length ≤ n) : Rd w (if c = k then A else A.map (·.add n)) (xs.drop n) := by
  intro j u hu
  rw [List.getElem?_drop] at hu
  have hl := (List.getElem?_eq_some_iff.1 hu).1
  rw [if_neg (by intro e; have := hc e; omega)]
  obtain ⟨b, off, rfl, hcc⟩ := h _ u hu
  exact ⟨b, off + n, by simp [add_none], by rw [Nat.add_assoc]; exact hcc⟩
theorem Rd.cells {b off : Nat} (h : Rd w (some ⟨b, off, none⟩) xs) : ∀ j u, xs[j]? = some u → w.cell? ((⟨b, off, none⟩ : Addr).add j) = some u := by
  intro j u hu
  obtain ⟨b', off', e, hc⟩ := h j u hu
  injection e with e
  injection e with e1 e2
  subst e1 e2
  rw [add_none]
  exact hc
theorem Rd.of_own {base e size n c : Nat} (h : w.ownsRow base e size (.slice A n c) n xs) : Rd w A xs := by
  intro j u hu
  rcases h.2 with ⟨hv, rfl⟩ | ⟨g, cap, cur, hv, hb, hg, hnc, hcm, hcs, htake⟩
  · have := h.1
    simp at this
    subst this
    simp at hu
  · injection hv with hA hn hc
    subst hA
    refine ⟨g, 0, rfl, ?_⟩
    have := h.cells (g := g) rfl j u hu
    rwa [add_none] at this
theorem own_frozen {base e size n c : Nat} {ad : Addr} (h : w.ownsRow base e size (.slice (some ad) n c) n xs) (j : Nat) : w.frozen? ⟨ad.block, j, none⟩ = false := by
  rcases h.2 with ⟨hv, _⟩ | ⟨g, cap, cur, hv, hb, hg, _⟩
  · cases hv
  · injection hv with hA
    injection hA with hA
    subst hA
    exact frozen_of_row w g j cur e hg
theorem own_rebase {base base' e size n : Nat} {v : Value} (h : w.ownsRow base e size v n xs) (hb : base' ≤ base) : w.ownsRow base' e size v n xs := by
  refine ⟨h.1, ?_⟩
  rcases h.2 with hn | ⟨g, cap, cur, rfl, hbg, rest⟩
  · exact .inl hn
  · exact .inr ⟨g, cap, cur, rfl, Nat.le_trans hb hbg, rest⟩
theorem own_pure {base e size n : Nat} {v : Value} (h : w.ownsRow base e size v n xs) (hb : Below w.heap.size w w') : w'.ownsRow base e size v n xs :=
  h.kept (row := none) ⟨hb.os, hb.tape, hb.output, hb.size, fun k hk _ => hb.block k hk⟩ (by cases v.ownBlock <;> simp)
theorem own_fr {base e size n : Nat} {v : Value} (h : w.ownsRow base e size v n xs) (hb : Fr S w w') (hs : ∀ g, v.ownBlock = some g → ¬ S g) : w'.ownsRow base e size v n xs := by
  refine ⟨h.1, ?_⟩
  rcases h.2 with hn | ⟨g, cap, cur, rfl, hbg, hg, rest⟩
  · exact .inl hn
  · exact .inr ⟨g, cap, cur, rfl, hbg, by rw [hb.block g (Array.getElem?_eq_some_iff.1 hg).1 (hs g rfl)]; exact hg, rest⟩
theorem own_take {base e size n c : Nat} (h : w.ownsRow base e size (.slice A n c) n xs) {k : Nat} (hk : k ≤ n) (hn : A ≠ none) : w.ownsRow base e size (.slice A k c) k (xs.take (k * size)) := by
  rcases h.2 with ⟨hv, _⟩ | ⟨g, cap, cur, hv, hb, hg, hnc, hcm, hcs, htake⟩
  · injection hv with hA
    exact absurd hA hn
  · injection hv with hA _ hc
    subst hA hc
    refine ⟨?_, .inr ⟨g, c, cur, rfl, hb, hg, by omega, hcm, hcs, ?_⟩⟩
    · rw [List.length_take, h.1]
      have := Nat.mul_le_mul_right size hk
      omega
    · rw [← htake, List.take_take]
      congr 1
      have := Nat.mul_le_mul_right size hk
      omega
end

theorem below_fr {N : Nat} {S : Nat → Prop} {w W W' : World} (hb : Below N w W) (hf : Fr S W W') (hS : ∀ k, S k → N ≤ k) (hN : N ≤ w.heap.size := by exact Nat.le_refl _) : Below N w W' :=
  hb.trans (hf.belowB (fun k hk e => by have := hS k e; omega) (Nat.le_trans hN hb.size))
def Blk (w : World) (g : Nat) (t : TypeId) (cs : Array Value) : Prop := w.heap[g]? = some (.cells cs t (0, 0))
section
variable {w w' : World} {S : Nat → Prop} {g : Nat} {t : TypeId} {cs : Array Value}
theorem Blk.lt (h : Blk w g t cs) : g < w.heap.size := by
  rcases Nat.lt_or_ge g w.heap.size with hlt | hge
  · exact hlt
  · unfold Blk at h; rw [Array.getElem?_eq_none hge] at h; cases h
theorem Blk.cell (h : Blk w g t cs) (i : Nat) : w.cell? ⟨g, i, none⟩ = cs[i]? := cell_of_row w g i cs t (0, 0) h
theorem Blk.frozen (h : Blk w g t cs) (i : Nat) : w.frozen? ⟨g, i, none⟩ = false := by
  unfold Blk at h
  simp [World.frozen?, h]
theorem Blk.new (w : World) (t : TypeId) (cs : Array Value) : Blk (w.alloc (.cells cs t)) w.heap.size t cs := heap_alloc_new w _
theorem Blk.new_ {w : World} {g : Nat} (h : w.heap.size = g) (t : TypeId) (cs : Array Value) : Blk (w.alloc (.cells cs t)) g t cs := by subst h; exact Blk.new w t cs
theorem Blk.drew (h : Blk w g t cs) : Blk w.drew g t cs := h
theorem Blk.alloc (h : Blk w g t cs) (o : Obj) : Blk (w.alloc o) g t cs := (Below.heap_alloc w o g h.lt).trans h
theorem Blk.set_ (h : Blk w g t cs) (i : Nat) (u : Value) : Blk (w.setCell ⟨g, i, none⟩ u) g t (cs.setIfInBounds i u) := by
  unfold Blk at h ⊢
  simp [World.setCell, Array.getElem?_modify, h]
theorem Blk.far (h : Blk w g t cs) {p : Addr} (hp : g ≠ p.block) (u : Value) : Blk (w.setCell p u) g t cs := (Below.heap_setCell w p u g hp).trans h
theorem Blk.pure (h : Blk w g t cs) (hb : Below w.heap.size w w') : Blk w' g t cs := (hb.block g h.lt).trans h
theorem Blk.fr (h : Blk w g t cs) (hb : Fr S w w') (hg : ¬ S g) : Blk w' g t cs := (hb.block g h.lt hg).trans h
theorem Blk.ne_ {g' : Nat} {t' : TypeId} {cs' : Array Value} (h : Blk w g t cs) (h' : Blk w g' t' cs') (hne : t ≠ t') : g ≠ g' := by
  rintro rfl
  unfold Blk at h h'
  rw [h] at h'
  injection h' with h'
  injection h' with _ ht
  exact hne ht
theorem own_blk_ne {base e size n : Nat} {v : Value} {xs : List Value} (h : w.ownsRow base e size v n xs) (hg : Blk w g t cs) (hne : e ≠ t) : v.ownBlock ≠ some g := by
  rcases h.2 with ⟨rfl, _⟩ | ⟨g', cap, cur, rfl, _, hh, _⟩
  · simp [Value.ownBlock]
  · intro he
    have : g' = g := by simpa [Value.ownBlock] using he
    subst this
    exact Blk.ne_ (t := e) hh hg hne rfl
end

/-! append onto a row of the call's own, from whatever slice -/
section
variable {P : Program} (w : World)
theorem run_append_rd (base : Nat) (t ty e : TypeId) (i : TypeInfo) (z : Value) (size bytes : Nat) (ht : P.underlying t = some (.slice e)) (hi : P.info? e = some i) (hz : i.zero = some z)
    (hsize : i.size = size) (hby : i.bytes = bytes) (hzs : z.cells.size = size) (hsz : 0 < size)
    (v : Value) (n : Nat) (xs : List Value) (hown : w.ownsRow base e size v n xs)
    (A : Option Addr) (m c : Nat) (news : List Value) (hl : news.length = m * size) (hr : Rd w A news) (h1 : ∀ u ∈ news, u.oneCell' = true)
    (h63 : n + m ≤ maxLen) (hbytes : (n + m) * bytes ≤ 140737488355328) (hbase : base ≤ w.heap.size) :
    ∃ v' w', (Builtin.append_ #[t, t] ty #[v, .slice A m c]).run P w = .ok v' w' ∧ w'.ownsRow base e size v' (n + m) (xs ++ news) ∧ w.grownBy w' v.ownBlock ∧
      (v'.ownBlock = v.ownBlock ∨ v'.ownBlock = some w.heap.size) := by
  rcases Nat.eq_zero_or_pos m with rfl | hm
  · have hn : news = [] := List.eq_nil_of_length_eq_zero (by simpa using hl)
    subst hn
    refine ⟨v, w, ?_, by simpa using hown, ⟨rfl, rfl, rfl, Nat.le_refl _, fun _ _ _ => rfl⟩, .inl rfl⟩
    rcases hown.2 with ⟨rfl, rfl⟩ | ⟨g, cap, cur, rfl, _, _, hnc, _⟩
    · cases A <;> simp [Builtin.append_, run_underlying ht, sizeOf, typeInfo, hi, Builtin.lenOf, Builtin.firstCells, loadCells, loadCellsFrom]
    · cases A <;> simp [Builtin.append_, run_underlying ht, sizeOf, typeInfo, hi, Builtin.lenOf, Builtin.firstCells, hnc, storeCells, loadCells, loadCellsFrom]
  · have hpos : 0 < news.length := by rw [hl]; exact Nat.mul_pos hm hsz
    obtain ⟨b, off, rfl, _⟩ := hr.lt hpos
    obtain ⟨v', w', hrun, h2, h3, _, h5⟩ := run_append_own_at (P := P) w base t ty e i z size bytes ht hi hz hsize hby hzs hsz v n xs hown ⟨b, off, none⟩ m c news hl hr.cells h1 h63 hbytes hbase
    exact ⟨v', w', hrun, h2, h3, h5⟩

theorem wpl_append {ops : Array Oper} {rest : List Oper} {o : Oper} {a : Act} {Q : Exit → Act → World → Prop} (hgd : Region.wanted o (yielded ops a.tmps) = true) (s x : Operand) (t : TypeId)
    (ho : o.op = .call { callee := .builtin .append, args := #[s, x], argTypes := #[t, t] })
    (base : Nat) (e : TypeId) (z : Value) (size bytes : Nat) (ht : P.underlying t = some (.slice e)) (hi : (P.info? e).map (fun i => (i.zero, i.size, i.bytes)) = some (some z, size, bytes))
    (hzs : z.cells.size = size) (hsz : 0 < size)
    (v : Value) (n : Nat) (xs : List Value) (hs : a.eval s = v) (hown : w.ownsRow base e size v n xs)
    (A : Option Addr) (m c : Nat) (news : List Value) (hx : a.eval x = .slice A m c) (hl : news.length = m * size) (hr : Rd w A news) (h1 : ∀ u ∈ news, u.oneCell' = true)
    (h63 : n + m ≤ maxLen) (hbytes : (n + m) * bytes ≤ 140737488355328) (hbase : base ≤ w.heap.size)
    (h : ∀ v' w', w'.ownsRow base e size v' (n + m) (xs ++ news) → w.grownBy w' v.ownBlock → (v'.ownBlock = v.ownBlock ∨ v'.ownBlock = some w.heap.size) → wpList P ops Q rest (a.put o.dst v') w') :
    wpList P ops Q (o :: rest) a w := by
  obtain ⟨i, hi', hz, hsize, hby⟩ := info_parts hi
  refine BigFrame.wpList_want hgd fun _ hK => ?_
  obtain ⟨v', w', hrun, h2, h3, h4⟩ := run_append_rd (P := P) w base t o.type e i z size bytes ht hi' hz hsize hby hzs hsz v n xs hown A m c news hl hr h1 h63 hbytes hbase
  unfold Oper.wp execOp
  simp only [ho, resolve, invoke, builtin, Sem.run_bind, Sem.run_pure, Result.andThen_ok, List.map_toArray, List.map_cons, List.map_nil, hs, hx, hrun]
  exact hK _ _ (h v' w' h2 h3 h4)
end

theorem own_form {w : World} {base e size n : Nat} {v : Value} {xs : List Value} (h : w.ownsRow base e size v n xs) : ∃ A c, v = .slice A n c ∧ n ≤ c ∧ c ≤ maxLen ∧ (∀ ad, A = some ad → ad = ⟨ad.block, 0, none⟩ ∧ base ≤ ad.block ∧ ad.block < w.heap.size) := by
  rcases h.2 with ⟨rfl, rfl⟩ | ⟨g, cap, cur, rfl, hb, hg, hnc, hcm, _⟩
  · exact ⟨none, 0, rfl, Nat.le_refl _, Nat.zero_le _, fun ad h => by cases h⟩
  · exact ⟨_, cap, rfl, hnc, hcm, fun ad h => by injection h with h; subst h; exact ⟨rfl, hb, (Array.getElem?_eq_some_iff.1 hg).1⟩⟩


/-! lists of elements of one size, laid out cell by cell -/
section
variable {α : Type} {f : α → List Value} {sz : Nat}
theorem fm_length (hf : ∀ x, (f x).length = sz) (l : List α) : (l.flatMap f).length = l.length * sz := by
  induction l with
  | nil => simp
  | cons x l ih => rw [List.flatMap_cons, List.length_append, hf, ih, List.length_cons, Nat.succ_mul, Nat.add_comm]
theorem fm_take (hf : ∀ x, (f x).length = sz) (l : List α) (k : Nat) : (l.take k).flatMap f = (l.flatMap f).take (k * sz) := by
  induction l generalizing k with
  | nil => simp
  | cons x l ih =>
    cases k with
    | zero => simp
    | succ k =>
      rw [List.take_succ_cons, List.flatMap_cons, List.flatMap_cons, ih, List.take_append, hf, Nat.succ_mul, Nat.add_sub_cancel, List.take_of_length_le (l := f x) (by rw [hf]; exact Nat.le_add_left _ _)]
theorem fm_drop (hf : ∀ x, (f x).length = sz) (l : List α) (k : Nat) : (l.drop k).flatMap f = (l.flatMap f).drop (k * sz) := by
  induction l generalizing k with
  | nil => simp
  | cons x l ih =>
    cases k with
    | zero => simp
    | succ k =>
      rw [List.drop_succ_cons, List.flatMap_cons, ih, List.drop_append, hf, Nat.succ_mul, Nat.add_sub_cancel, List.drop_eq_nil_of_le (show (f x).length ≤ k * sz + sz by rw [hf]; exact Nat.le_add_left _ _), List.nil_append]
theorem fm_at (hf : ∀ x, (f x).length = sz) (l : List α) (k j : Nat) (hk : k < l.length) (hj : j < sz) : (l.flatMap f)[k * sz + j]? = (f l[k])[j]? := by
  have h := fm_drop hf l k
  rw [List.drop_eq_getElem_cons hk, List.flatMap_cons] at h
  rw [← List.getElem?_drop, ← h, List.getElem?_append_left (by rw [hf]; exact hj)]
theorem fm_one (h1 : ∀ x, ∀ u ∈ f x, u.oneCell' = true) (l : List α) : ∀ u ∈ l.flatMap f, u.oneCell' = true := by
  intro u hu
  obtain ⟨x, _, hx⟩ := List.mem_flatMap.1 hu
  exact h1 x u hx

def Is (f : α → List Value) (w : World) (A : Option Addr) (n : Nat) (l : List α) : Prop := l.length = n ∧ Rd w A (l.flatMap f)
def Own (f : α → List Value) (sz : Nat) (e : TypeId) (w : World) (B : Nat) (A : Option Addr) (n c : Nat) (l : List α) : Prop := l.length = n ∧ w.ownsRow B e sz (.slice A n c) n (l.flatMap f)

variable {w w' : World} {A : Option Addr} {n c B : Nat} {l : List α} {e : TypeId} {S : Nat → Prop}
theorem Is.pure (h : Is f w A n l) (hb : Below w.heap.size w w') : Is f w' A n l := ⟨h.1, h.2.pure hb⟩
theorem Is.fr (h : Is f w A n l) (hb : Fr S w w') (hs : ∀ ad, A = some ad → ¬ S ad.block) : Is f w' A n l := ⟨h.1, h.2.fr hb hs⟩
theorem Is.drewN (h : Is f w A n l) (k : Nat) : Is f (w.drewN k) A n l := h
theorem Is.alloc (h : Is f w A n l) (o : Obj) : Is f (w.alloc o) A n l := ⟨h.1, h.2.alloc o⟩
theorem Is.nil (w : World) (A : Option Addr) : Is f w A 0 [] := ⟨rfl, Rd.nil w A⟩
theorem Is.none_ (hf : ∀ x, (f x).length = sz) (hz : 0 < sz) (h : Is f w none n l) : l = [] ∧ n = 0 := by
  cases l with
  | nil => exact ⟨rfl, h.1.symm⟩
  | cons x l =>
    have hp : 0 < ((x :: l).flatMap f).length := by rw [fm_length hf, List.length_cons, Nat.succ_mul]; omega
    obtain ⟨b, off, e, _⟩ := h.2.lt hp
    cases e
theorem Is.some_ (hf : ∀ x, (f x).length = sz) (hz : 0 < sz) (h : Is f w A n l) (hn : 0 < n) : ∃ b off, A = some ⟨b, off, none⟩ ∧ b < w.heap.size := by
  have hp : 0 < (l.flatMap f).length := by rw [fm_length hf, h.1]; exact Nat.mul_pos hn hz
  exact h.2.lt hp
theorem Is.at_ (hf : ∀ x, (f x).length = sz) (hz : 0 < sz) (h : Is f w A n l) {k : Nat} (hk : k < n) :
    ∃ b off, A = some ⟨b, off, none⟩ ∧ ∃ hk : k < l.length, ∀ j, j < sz → w.cell? ⟨b, off + k * sz + j, none⟩ = (f l[k])[j]? := by
  obtain ⟨b, off, rfl, _⟩ := h.some_ hf hz (by omega)
  have hk' : k < l.length := by rw [h.1]; exact hk
  refine ⟨b, off, rfl, hk', fun j hj => ?_⟩
  have e := fm_at hf l k j hk' hj
  have hj' : (f l[k])[j]? = some ((f l[k])[j]'(by rw [hf]; exact hj)) := List.getElem?_eq_getElem _
  rw [hj'] at e ⊢
  obtain ⟨b', off', e', hc⟩ := h.2 _ _ e
  injection e' with e'; injection e' with e1 e2; subst e1 e2
  rw [Nat.add_assoc]; exact hc
theorem Is.take (hf : ∀ x, (f x).length = sz) (h : Is f w A n l) {k : Nat} (hk : k ≤ n) : Is f w A k (l.take k) := ⟨by rw [List.length_take, h.1]; omega, by rw [fm_take hf]; exact h.2.take _⟩
theorem Is.cut0 (h : Is f w A n l) {k : Nat} (hk : c = k) (hc : n ≤ c) : Is f w A (n - k) (l.drop k) := by
  have := h.1
  rw [List.drop_eq_nil_of_le (by omega)]; exact ⟨by simp; omega, Rd.nil _ _⟩
theorem Is.cut1 (hf : ∀ x, (f x).length = sz) (h : Is f w A n l) {k : Nat} : Is f w (A.map fun x => x.add (k * sz)) (n - k) (l.drop k) := by
  refine ⟨by rw [List.length_drop, h.1], ?_⟩
  rw [fm_drop hf]
  have := h.2.drop (k * sz) (c := 1) (k := 0) (by omega)
  simpa using this
theorem Own.is (h : Own f sz e w B A n c l) : Is f w A n l := ⟨h.1, Rd.of_own h.2⟩
theorem Own.pure (h : Own f sz e w B A n c l) (hb : Below w.heap.size w w') : Own f sz e w' B A n c l := ⟨h.1, own_pure h.2 hb⟩
theorem Own.fr (h : Own f sz e w B A n c l) (hb : Fr S w w') (hs : ∀ ad, A = some ad → ¬ S ad.block) : Own f sz e w' B A n c l := ⟨h.1, own_fr h.2 hb (fun g hg => by
  cases A with
  | none => simp [Value.ownBlock] at hg
  | some ad => simp [Value.ownBlock] at hg; subst hg; exact hs ad rfl)⟩
theorem Own.rebase {B' : Nat} (h : Own f sz e w B A n c l) (hb : B' ≤ B) : Own f sz e w B' A n c l := ⟨h.1, own_rebase h.2 hb⟩
theorem Own.nil (w : World) (B : Nat) : Own f sz e w B none 0 0 [] := ⟨rfl, World.ownsRow_nil _ _ _ _⟩
theorem Own.cap (h : Own f sz e w B A n c l) : n ≤ c ∧ c ≤ maxLen := by
  obtain ⟨_, _, e, h1, h2, _⟩ := own_form h.2
  injection e with _ _ e
  omega
theorem Own.addr (h : Own f sz e w B A n c l) : ∀ ad, A = some ad → ad = ⟨ad.block, 0, none⟩ ∧ B ≤ ad.block ∧ ad.block < w.heap.size := by
  obtain ⟨A', _, e, _, _, h3⟩ := own_form h.2
  injection e with e
  subst e
  exact h3
theorem Own.take (hf : ∀ x, (f x).length = sz) (h : Own f sz e w B A n c l) {k : Nat} (hk : k ≤ n) : Own f sz e w B A k c (l.take k) := by
  refine ⟨by rw [List.length_take, h.1]; omega, ?_⟩
  rw [fm_take hf]
  cases A with
  | none =>
    rcases h.2.2 with ⟨hv, hn⟩ | ⟨_, _, _, hv, _⟩
    · injection hv with _ h1 h2
      subst hn h2
      obtain rfl : k = 0 := by omega
      exact ⟨by simp, .inl ⟨rfl, rfl⟩⟩
    · cases hv
  | some ad => exact own_take h.2 hk (by simp)
theorem Own.mk (hf : ∀ x, (f x).length = sz) (hz : 0 < sz) {v : Value} {xs : List Value} (h : w.ownsRow B e sz v n xs) (hx : xs = l.flatMap f) : ∃ A c, v = .slice A n c ∧ Own f sz e w B A n c l := by
  subst hx
  have hl := h.1
  rw [fm_length hf] at hl
  obtain ⟨A, c, rfl, _⟩ := own_form h
  exact ⟨A, c, rfl, Nat.eq_of_mul_eq_mul_right hz hl, h⟩
end

/-! append in these words -/
section
variable {α : Type} {f : α → List Value} {P : Program} (w : World)
theorem wpl_app {ops : Array Oper} {rest : List Oper} {o : Oper} {a : Act} {Q : Exit → Act → World → Prop} (hgd : Region.wanted o (yielded ops a.tmps) = true) (s x : Operand) (t : TypeId)
    (ho : o.op = .call { callee := .builtin .append, args := #[s, x], argTypes := #[t, t] })
    (e : TypeId) (z : Value) (sz bytes : Nat) (ht : P.underlying t = some (.slice e)) (hi : (P.info? e).map (fun i => (i.zero, i.size, i.bytes)) = some (some z, sz, bytes))
    (hzs : z.cells.size = sz) (hsz : 0 < sz) (hf : ∀ x, (f x).length = sz) (h1 : ∀ x, ∀ u ∈ f x, u.oneCell' = true)
    (B : Nat) (A : Option Addr) (n c : Nat) (l : List α) (hs : a.eval s = .slice A n c) (hown : Own f sz e w B A n c l)
    (A2 : Option Addr) (m d : Nat) (l2 : List α) (hx : a.eval x = .slice A2 m d) (hr : Is f w A2 m l2)
    (hbytes : (n + m) * (bytes + 1) ≤ 140737488355328) (hbase : B ≤ w.heap.size)
    (h : ∀ A' c' w', Own f sz e w' B A' (n + m) c' (l ++ l2) → Fr (fun k => ∃ ad, A = some ad ∧ k = ad.block) w w' →
      (A'.map (·.block) = A.map (·.block) ∨ A'.map (·.block) = some w.heap.size) → wpList P ops Q rest (a.put o.dst (.slice A' (n + m) c')) w') :
    wpList P ops Q (o :: rest) a w := by
  have e1 : (n + m) * bytes ≤ 140737488355328 := Nat.le_trans (Nat.mul_le_mul_left _ (Nat.le_succ _)) hbytes
  have e2 : n + m ≤ maxLen := by
    have : n + m ≤ (n + m) * (bytes + 1) := Nat.le_mul_of_pos_right _ (Nat.succ_pos _)
    simp only [maxLen]; omega
  refine wpl_append w hgd s x t ho B e z sz bytes ht hi hzs hsz _ n (l.flatMap f) hs hown.2 A2 m d (l2.flatMap f) hx (by rw [fm_length hf, hr.1]) hr.2 (fm_one h1 l2) e2 e1 hbase ?_
  intro v' w' h2 h3 h4
  obtain ⟨A', c', rfl, ho'⟩ := Own.mk hf hsz (l := l ++ l2) h2 List.flatMap_append.symm
  refine h A' c' w' ho' ((Fr.of_grown h3).mono fun i _ hi => ?_) ?_
  · cases A with
    | none => simp [Value.ownBlock] at hi
    | some ad => simp [Value.ownBlock] at hi; exact ⟨ad, rfl, hi⟩
  · cases A <;> cases A' <;> simp only [Value.ownBlock, Option.map] at h4 ⊢ <;> exact h4
end

theorem ret_int {k : IntKind} {a b : Int} (h : a = b) : Ending.returned (.int k a) = .returned (.int k b) := by rw [h]
theorem ret_bool {a b : Bool} (h : a = b) : Ending.returned (.bool a) = .returned (.bool b) := by rw [h]

end Go.Acc

namespace Go.Acc
def tRows : List (Int × Int × Int) :=
  [(1, 0, 0), (1, 0, 0), (1, 0, 0), (0, 0, 0), (2, 0, 0), (2, 0, 0), (2, 0, 0), (2, 0, 0), (0, 0, 0), (2, 0, 0), (2, 0, 0), (3, 1, 0), (3, 2, 0), (0, 0, 0), (3, 4, 0), (0, 0, 0),
   (3, 1, 2), (3, 2, 2), (0, 0, 0), (3, 1, 3), (3, 2, 3), (0, 0, 0), (3, 1, 4), (3, 2, 4), (0, 0, 0), (2, 0, 0), (1, 0, 0), (0, 0, 0), (0, 0, 0), (0, 0, 0), (0, 0, 0), (0, 0, 0), (0, 0, 0), (0, 0, 0), (0, 0, 0), (0, 0, 0), (3, 26, 0)]
def tKinds : List Int := [1, 3, 4, 0, 5, 6, 8, 9, 0, 17, 10, 11, 12, 0, 13, 0, 15, 16, 0, 15, 16, 0, 15, 16, 0, 7, 2, 0, 0, 0, 0, 0, 0, 0, 0, 0, 14]
def isT (t : Int) : Bool := decide (0 ≤ t ∧ t < 37)
def tRow (t : Int) : Int × Int × Int := if isT t = true then tRows.getD t.toNat (0, 0, 0) else (0, 0, 0)
def legalT (t : Int) : Bool := (tRow t).1 != 0
def inlineT (t : Int) : Bool := (tRow t).1 == 1
def vecT (t : Int) : Bool := (tRow t).1 == 3
def elemT (t : Int) : Int := (tRow t).2.1
def manyT (t : Int) : Int := (tRow t).2.2
def kindT (t : Int) : Int := if isT t = true then tKinds.getD t.toNat 0 else 0
def t37 : List Int := [0, 1, 2, 3, 4, 5, 6, 7, 8, 9, 10, 11, 12, 13, 14, 15, 16, 17, 18, 19, 20, 21, 22, 23, 24, 25, 26, 27, 28, 29, 30, 31, 32, 33, 34, 35, 36]
theorem isT_iff {t : Int} : isT t = true ↔ 0 ≤ t ∧ t < 37 := by simp [isT]
theorem t37_all {p : Int → Prop} (h : ∀ n : Fin 37, p ((n.val : Nat) : Int)) {t : Int} (ht : isT t = true) : p t := by
  have ht := isT_iff.1 ht
  obtain ⟨n, rfl⟩ := Int.eq_ofNat_of_zero_le ht.1
  exact h ⟨n, by omega⟩
theorem tRow_no {t : Int} (h : isT t = false) : tRow t = (0, 0, 0) := by simp [tRow, h]
theorem legal_isT {t : Int} (h : legalT t = true) : isT t = true := by
  cases e : isT t with
  | true => rfl
  | false => simp [legalT, tRow_no e] at h
def unT (c : UInt8) : Int := if legalT ((c.toNat : Int) / 4) = true then (c.toNat : Int) / 4 else 0
def unW (c : UInt8) : Int := if legalT ((c.toNat : Int) / 4) = true then 2 ^ (c.toNat % 4) else 0
def unE (c : UInt8) : Int := if legalT ((c.toNat : Int) / 4) = true then 0 else 20
end Go.Acc
