/-
  Package list, plain: what the readers of lists find in a built document. No program in sight.
  Package list, plain: the elements of a list node in a built document. No program in sight.
  Words for the builder's memory: each block has an owner, a label; a call changes only the blocks of some labels, and says whom the new blocks belong to.
  Package buf: none, Err, put, Len.
  make([]byte, n): a row of zeros of the call's own; a literal slice of bytes as a row of the call's own.
  Package buf: with, Align, Num; package width: Code.
  Package build, plain: how much a tree adds to the builder's state; the bound for cut trees. No program in sight.
-/
import Derived.Test.YtfoifdoaleaekaaGreatQg10
namespace Go.Proofs.YtfoifdoaleaekaaGreat
open Go.Acc
structure LstIn (L : List UInt8) (s : Nat) (vs : List Bv) (v : Bv) : Prop where
  w : isW (v.w : Int) = true
  typ : isL (v.t : Int) = true
  md : (s + v.n) % v.w = 0
  ah : aheadT (v.t : Int) * v.w ≤ s + v.n
  n1 : 0 < manyT (v.t : Int) → manyT (v.t : Int) = (vs.length : Int)
  n2 : ¬ 0 < manyT (v.t : Int) → loadU L (((s + v.n : Nat) : Int) - (v.w : Int)) (v.w : Int) = vs.length
  sp : s + v.n + vs.length * (v.w + tgs (v.t : Int)) ≤ L.length
  tags : tagT (v.t : Int) = true → At L (s + v.n + vs.length * v.w) (vs.map (bTag v.w))
  el : ∀ (i : Nat) y, vs[i]? = some y → At L (s + v.n + i * v.w) (leBytes v.w (elemN v.w (v.n + i * v.w) y)) ∧ Elem v.w (v.n + i * v.w) y
theorem mod_align {w n : Nat} (hw : isW (w : Int) = true) (b : List UInt8) (k : Nat) (h : n = (alignB w b).length + k * w) : n % w = 0 := by
  have := (align_len hw b).2.1
  rw [h, Nat.add_mul_mod_self_right]
  exact this
theorem VecAt.mod {l : List UInt8} {t : Nat} {len tags : Bool} {vs : List Bv} {v : Bv} (h : VecAt l t len tags vs v) : v.n % v.w = 0 := by
  have hw := h.width.2
  obtain ⟨b, m, rfl, rfl, _⟩ := h
  obtain ⟨w, hwd⟩ : ∃ w, fitAll b.length (if len = true then 1 else 0) none vs = w := ⟨_, rfl⟩
  simp only [bVec, hwd] at hw ⊢
  refine mod_align hw b (if len = true then 1 else 0) ?_
  rw [List.length_append]
  cases len <;> simp [leBytes_length]
theorem MapAt.mod {l : List UInt8} {k : Bv} {vs : List Bv} {v : Bv} (h : MapAt l k vs v) : v.n % v.w = 0 := by
  have hw := h.width.2
  obtain ⟨b, m, rfl, rfl, _⟩ := h
  obtain ⟨w, hwd⟩ : ∃ w, fitAll b.length 3 (some k) vs = w := ⟨_, rfl⟩
  simp only [mapB, hwd] at hw ⊢
  refine mod_align hw b 3 ?_
  simp only [List.length_append, leBytes_length]
  omega
theorem mod_ahead {s n w : Nat} (hw : isW (w : Int) = true) (hs : s % 8 = 0) (h : n % w = 0) : (s + n) % w = 0 := by
  rcases isW_nat.1 hw with rfl | rfl | rfl | rfl <;> omega
theorem load_len {L : List UInt8} {a w u : Nat} (hw : isW (w : Int) = true) (h : At L a (leBytes w u)) (hu : u < 2 ^ (8 * w)) : loadU L (a : Int) (w : Int) = u := by
  rw [h.load hw, leVal_leBytes, Nat.mod_eq_of_lt hu]
theorem ty_facts : ∀ T ∈ [9, 10, 11, 12, 14, 36, 16, 17, 19, 20, 22, 23], isL (T : Nat) = true ∧ inlineT (T : Nat) = false := by decide
theorem ty_free : ∀ T ∈ [10, 11, 12, 14, 36], manyT ((T : Nat) : Int) = 0 ∧ aheadT ((T : Nat) : Int) = 1 := by decide
theorem ty_fix : ∀ T ∈ [16, 17, 19, 20, 22, 23], aheadT ((T : Nat) : Int) = 0 ∧ tgs ((T : Nat) : Int) = 0 ∧ tagT ((T : Nat) : Int) = false := by decide
theorem ty_typed : ∀ T ∈ [11, 12, 14, 36], tgs ((T : Nat) : Int) = 0 ∧ tagT ((T : Nat) : Int) = false := by decide
theorem vec_list {l : List UInt8} {T : Nat} {tags : Bool} {vs : List Bv} {v : Bv} (h : VecAt l T true tags vs v) (hb : l.length < 2 ^ 32) (x : List UInt8) (hx : x.length % 8 = 0) (hT : (T = 10 ∧ tags = true) ∨ ((T = 11 ∨ T = 12 ∨ T = 14 ∨ T = 36) ∧ tags = false)) :
    LstIn (x ++ l) x.length vs v := by
  obtain ⟨ht, hw⟩ := h.width
  have hm := h.mod
  have hf := h.facts hb x
  obtain ⟨c, hc, ha, hl⟩ := hf.len rfl
  have h5 : T ∈ [10, 11, 12, 14, 36] := by simp; omega
  obtain ⟨m1, m2⟩ := ty_free T h5
  have hle : vs.length * v.w + vs.length * tgs (v.t : Int) ≤ vs.length * v.w + (if tags = true then vs.length else 0) := by
    rw [ht]
    rcases hT with ⟨rfl, rfl⟩ | ⟨hT, rfl⟩
    · have e : tgs ((10 : Nat) : Int) = 1 := by decide
      rw [e]
      simp
    · have := (ty_typed T (by simp; omega)).1
      rw [this]
      simp
  refine ⟨hw, ?_, mod_ahead hw hx hm, ?_, ?_, ?_, ?_, ?_, ?_⟩
  · rw [ht]
    exact (ty_facts T (by simp; omega)).1
  · rw [ht, m2, hc]
    omega
  · rw [ht, m1]
    intro h0
    omega
  · intro _
    have e : ((x.length + v.n : Nat) : Int) - (v.w : Int) = ((x.length + c : Nat) : Int) := by omega
    rw [e]
    exact load_len hw ha hl
  · rw [Nat.mul_add]
    have h1 := hf.le
    cases tags with
    | false => simp only [Bool.false_eq_true, if_false] at hle; omega
    | true =>
      have h2 := (hf.tags rfl).le
      rw [List.length_map] at h2
      simp only [if_true] at hle
      omega
  · rw [ht]
    rcases hT with ⟨rfl, rfl⟩ | ⟨hT, rfl⟩
    · intro _
      have := hf.tags rfl
      rwa [← Nat.add_assoc] at this
    · rw [(ty_typed T (by simp; omega)).2]
      intro h
      cases h
  · intro i y hy
    obtain ⟨h1, h2⟩ := hf.el i y hy
    rw [← Nat.add_assoc] at h1
    exact ⟨h1, h2⟩
theorem fix_list {l : List UInt8} {T : Nat} {vs : List Bv} {v : Bv} (h : VecAt l T false false vs v) (hb : l.length < 2 ^ 32) (x : List UInt8) (hx : x.length % 8 = 0) (hT : T = 16 ∨ T = 17 ∨ T = 19 ∨ T = 20 ∨ T = 22 ∨ T = 23) (hn : manyT (T : Int) = (vs.length : Int)) :
    LstIn (x ++ l) x.length vs v := by
  obtain ⟨ht, hw⟩ := h.width
  have hm := h.mod
  have hf := h.facts hb x
  have h5 : T ∈ [16, 17, 19, 20, 22, 23] := by simp; omega
  obtain ⟨m1, m2, m3⟩ := ty_fix T h5
  refine ⟨hw, ?_, mod_ahead hw hx hm, ?_, ?_, ?_, ?_, ?_, ?_⟩
  · rw [ht]
    exact (ty_facts T (by simp; omega)).1
  · rw [ht, m1]
    omega
  · rw [ht]
    intro _
    exact hn
  · rw [ht]
    intro h0
    have hp : 0 < manyT (T : Int) := by
      rcases hT with rfl | rfl | rfl | rfl | rfl | rfl <;> decide
    exact absurd hp h0
  · rw [ht, m2, Nat.add_zero, Nat.add_assoc]
    exact hf.le
  · rw [ht, m3]
    intro h
    cases h
  · intro i y hy
    obtain ⟨h1, h2⟩ := hf.el i y hy
    rw [← Nat.add_assoc] at h1
    exact ⟨h1, h2⟩
structure Leads (L : List UInt8) (s : Nat) (v : Bv) (p q : Int) : Prop where
  may : mayE L.length p q (v.t : Int) (v.w : Int) = 0
  tgE : tgtE L p q (v.t : Int) (v.w : Int) = 0
  tg : tgt L p q (v.t : Int) (v.w : Int) = ((s + v.n : Nat) : Int)
theorem lst_len {L : List UInt8} {s : Nat} {vs : List Bv} {v : Bv} {p q : Int} (h : LstIn L s vs v) (r : Leads L s v p q) :
    lsE L p q (v.t : Int) (v.w : Int) = 0 ∧ lsLen L p q (v.t : Int) (v.w : Int) = vs.length ∧ lsAt L p q (v.t : Int) (v.w : Int) = s + v.n := by
  have hN : lsN L p q (v.t : Int) (v.w : Int) = vs.length := by
    unfold lsN
    by_cases hm : 0 < manyT (v.t : Int)
    · rw [if_pos hm, h.n1 hm]
      rfl
    · rw [if_neg hm, r.tg]
      exact h.n2 hm
  have hE : lsE L p q (v.t : Int) (v.w : Int) = 0 := by
    unfold lsE
    rw [r.may, r.tgE, r.tg, h.typ, hN]
    have h1 := h.md
    have h2 := h.ah
    have h3 := h.sp
    unfold lsX
    rw [if_neg (by simp), if_neg (by simp), if_neg (by simp), if_neg (by omega), Int.toNat_natCast, Int.toNat_natCast, if_neg (by omega), if_neg (by omega)]
  refine ⟨hE, ?_, ?_⟩
  · unfold lsLen
    rw [if_pos hE, hN]
  · unfold lsAt
    rw [if_pos hE, r.tg]
    rfl
theorem lst_at {L : List UInt8} {s : Nat} {vs : List Bv} {v : Bv} {p q : Int} (h : LstIn L s vs v) (r : Leads L s v p q) {i : Nat} {y : Bv} (hy : vs[i]? = some y) (hl : tagT (v.t : Int) = true → legalT (y.t : Int) = true ∧ isW (y.w : Int) = true) :
    atE L p q (v.t : Int) (v.w : Int) (i : Int) = 0 ∧ atP L p q (v.t : Int) (v.w : Int) (i : Int) = ((s + v.n + i * v.w : Nat) : Int) ∧ atQ L p q (v.t : Int) (v.w : Int) (i : Int) = (v.w : Int) ∧
      atT L p q (v.t : Int) (v.w : Int) (i : Int) = (if tagT (v.t : Int) = true then (y.t : Int) else elemT (v.t : Int)) ∧ atV L p q (v.t : Int) (v.w : Int) (i : Int) = (if tagT (v.t : Int) = true then (ownW v.w y : Int) else (v.w : Int)) := by
  obtain ⟨e1, e2, e3⟩ := lst_len h r
  have hi := (List.getElem?_eq_some_iff.1 hy).1
  have htag : tagT (v.t : Int) = true → tagB L p q (v.t : Int) (v.w : Int) (i : Int) = bTag v.w y := by
    intro ht
    have ha := h.tags ht
    unfold tagB
    rw [e3, e2, Int.toNat_natCast, Int.toNat_natCast, List.getD_eq_getElem?_getD, ha.get (by simpa using hi), List.getElem?_map, hy]
    rfl
  have hun : tagT (v.t : Int) = true → unT (bTag v.w y) = (y.t : Int) ∧ unW (bTag v.w y) = (ownW v.w y : Int) ∧ unE (bTag v.w y) = 0 := by
    intro ht
    obtain ⟨g1, g2⟩ := hl ht
    have how : isW (ownW v.w y : Int) = true := by
      unfold ownW
      split
      · exact h.w
      · exact g2
    exact tag_is y.t (ownW v.w y) g1 how
  have hE : atE L p q (v.t : Int) (v.w : Int) (i : Int) = 0 := by
    unfold atE
    rw [e1, e2, if_neg (by simp), if_neg (by omega)]
    by_cases ht : tagT (v.t : Int) = true
    · rw [if_pos ht, htag ht]
      exact (hun ht).2.2
    · rw [if_neg ht]
  refine ⟨hE, ?_, ?_, ?_, ?_⟩
  · unfold atP
    rw [if_pos hE, e3, Int.toNat_natCast, Int.toNat_natCast]
    omega
  · unfold atQ
    rw [if_pos hE]
  · unfold atT
    rw [if_pos hE]
    by_cases ht : tagT (v.t : Int) = true
    · rw [if_pos ht, if_pos ht, htag ht]
      exact (hun ht).1
    · rw [if_neg ht, if_neg ht]
  · unfold atV
    rw [if_pos hE]
    by_cases ht : tagT (v.t : Int) = true
    · rw [if_pos ht, if_pos ht, htag ht]
      exact (hun ht).2.1
    · rw [if_neg ht, if_neg ht]
end Go.Proofs.YtfoifdoaleaekaaGreat

namespace Go.Proofs.YtfoifdoaleaekaaGreat
open Go.Acc
theorem many_fix {n : Nat} (h : n = 2 ∨ n = 3 ∨ n = 4) : (manyT ((10 + 3 * n : Nat) : Int) = (n : Int) ∧ manyT ((11 + 3 * n : Nat) : Int) = (n : Int)) ∧ (tagT ((10 + 3 * n : Nat) : Int) = false ∧ kindT (elemT ((10 + 3 * n : Nat) : Int)) = 3) ∧ (tagT ((11 + 3 * n : Nat) : Int) = false ∧ kindT (elemT ((11 + 3 * n : Nat) : Int)) = 4) := by
  rcases h with rfl | rfl | rfl <;> decide
end Go.Proofs.YtfoifdoaleaekaaGreat

namespace Go.Acc
open Go.RowKit
structure To (I : Nat → Prop) (w : World) (o : Nat → Nat) (w' : World) (o' : Nat → Nat) : Prop where
  fr : Fr (fun k => I (o k)) w w'
  ow : ∀ k, k < w.heap.size → o' k = o k
section
variable {I J : Nat → Prop} {w w' w'' : World} {o o' o'' : Nat → Nat}
theorem To.refl (I : Nat → Prop) (w : World) (o : Nat → Nat) : To I w o w o := ⟨Fr.refl _ _, fun _ _ => rfl⟩
theorem To.pure (I : Nat → Prop) (h : Below w.heap.size w w') (o : Nat → Nat) : To I w o w' o := ⟨Fr.of_below h _, fun _ _ => rfl⟩
def newO (o : Nat → Nat) (N i : Nat) : Nat → Nat := fun k => if k < N then o k else i
theorem newO_old {N i k : Nat} (h : k < N) : newO o N i k = o k := if_pos h
theorem newO_new {N i k : Nat} (h : N ≤ k) : newO o N i k = i := if_neg (by omega)
theorem To.fresh (I : Nat → Prop) (h : Below w.heap.size w w') (o : Nat → Nat) (i : Nat) : To I w o w' (newO o w.heap.size i) := ⟨Fr.of_below h _, fun _ hk => newO_old hk⟩
theorem To.of_fr {S : Nat → Prop} (h : Fr S w w') (hS : ∀ k, k < w.heap.size → S k → I (o k)) (i : Nat) : To I w o w' (newO o w.heap.size i) := ⟨h.mono hS, fun _ hk => newO_old hk⟩
theorem To.of_fr0 {S : Nat → Prop} (h : Fr S w w') (hS : ∀ k, k < w.heap.size → S k → I (o k)) : To I w o w' o := ⟨h.mono hS, fun _ _ => rfl⟩
theorem To.trans (h : To I w o w' o') (k : To I w' o' w'' o'') : To I w o w'' o'' :=
  ⟨h.fr.trans k.fr fun i hi hI => by rw [h.ow i hi] at hI; exact hI, fun i hi => (k.ow i (Nat.lt_of_lt_of_le hi h.fr.size)).trans (h.ow i hi)⟩
theorem To.mono (h : To I w o w' o') (hJ : ∀ i, I i → J i) : To J w o w' o' := ⟨h.fr.mono fun _ _ hi => hJ _ hi, h.ow⟩
theorem To.size (h : To I w o w' o') : w.heap.size ≤ w'.heap.size := h.fr.size
theorem To.below (h : To I w o w' o') (hI : ∀ k, k < w.heap.size → ¬ I (o k)) : Below w.heap.size w w' := h.fr.below hI
theorem To.keep {k : Nat} (h : To I w o w' o') (hk : k < w.heap.size) (hI : ¬ I (o k)) : w'.heap[k]? = w.heap[k]? := h.fr.block k hk hI
theorem Blk.to_ {g : Nat} {t : TypeId} {cs : Array Value} (hb : Blk w g t cs) (h : To I w o w' o') (hI : ¬ I (o g)) : Blk w' g t cs := hb.fr h.fr hI
def Of (o : Nat → Nat) (A : Option Addr) (i : Nat) : Prop := ∀ ad, A = some ad → o ad.block = i
theorem Of.none_ (i : Nat) : Of o none i := fun _ h => by cases h
variable {α : Type} {f : α → List Value} {sz n c B i : Nat} {e : TypeId} {A : Option Addr} {l : List α}
theorem Of.to_ (h : Of o A i) (ho : Own f sz e w B A n c l) (ht : To I w o w' o') : Of o' A i := fun ad hA => by
  rw [ht.ow _ (ho.addr ad hA).2.2]; exact h ad hA
theorem Own.to_ (ho : Own f sz e w B A n c l) (h : Of o A i) (ht : To I w o w' o') (hI : ¬ I i) : Own f sz e w' B A n c l :=
  ho.fr ht.fr fun ad hA => by rw [h ad hA]; exact hI
theorem Is.to_ (ho : Is f w A n l) (h : Of o A i) (ht : To I w o w' o') (hI : ¬ I i) : Is f w' A n l :=
  ho.fr ht.fr fun ad hA => by rw [h ad hA]; exact hI
theorem Of.grown {A' : Option Addr} {N : Nat} (h : Of o A i) (ho : Own f sz e w B A n c l) (hN : w.heap.size ≤ N) (hat : A'.map (·.block) = A.map (·.block) ∨ A'.map (·.block) = some N) (hw : N = w.heap.size) : Of (newO o w.heap.size i) A' i := by
  intro ad hA
  subst hA hw
  rcases hat with e | e
  · cases hA : A with
    | none => subst hA; simp at e
    | some a =>
      subst hA
      simp at e
      rw [e, newO_old (ho.addr a rfl).2.2]
      exact h a rfl
  · simp at e
    rw [e, newO_new (Nat.le_refl _)]
theorem To.cell {p : Addr} {u : Value} (h : To I w o w' o') (hc : w.cell? p = some u) (hI : ¬ I (o p.block)) : w'.cell? p = some u := cell_fr h.fr hc hI
theorem kdrew {p : Addr} {u : Value} (h : w.cell? p = some u) : w.drew.cell? p = some u := h
theorem kdrewN {p : Addr} {u : Value} (n : Nat) (h : w.cell? p = some u) : (w.drewN n).cell? p = some u := h
theorem kalloc {p : Addr} {u : Value} (b : Obj) (h : w.cell? p = some u) : (w.alloc b).cell? p = some u := cell_pure ((Below.refl _ _).alloc (Nat.le_refl _) b) h
theorem To.from_drew (h : To I w.drew o w' o') : To I w o w' o' := ⟨(Fr.refl _ w).drew.trans h.fr fun _ _ h => h, h.ow⟩
theorem To.from_pure {I : Nat → Prop} (hb : Below w.heap.size w w') (h : To I w' o w'' o'') : To I w o w'' o'' := (To.pure I hb o).trans h
end
end Go.Acc

namespace Go.Proofs.YtfoifdoaleaekaaGreat
open Go.RowKit Go.Acc
def Buf (w : World) (o : Nat → Nat) (b : Nat) (l : List UInt8) : Prop :=
  ∃ A n c, Blk w b 208 #[.bool true, .slice A n c, .int .i64 1048576, .int .i64 0] ∧ OwnB w 0 A n c l ∧ Of o A 1 ∧ o b = 1
def BufTo (w : World) (o : Nat → Nat) (b : Nat) (l : List UInt8) (e : Ending) (w' : World) : Prop :=
  e = .returned (.tuple #[]) ∧ ∃ o', Buf w' o' b l ∧ To (fun i => i = 1) w o w' o'
section
variable {I : Nat → Prop} {w w' : World} {o o' : Nat → Nat} {b : Nat} {l : List UInt8}
theorem Buf.to_ (h : Buf w o b l) (ht : To I w o w' o') (hI : ¬ I 1) : Buf w' o' b l := by
  obtain ⟨A, n, c, hb, ho, h1, h2⟩ := h
  exact ⟨A, n, c, hb.to_ ht (by rw [h2]; exact hI), ho.to_ h1 ht hI, h1.to_ ho ht, by rw [ht.ow _ hb.lt]; exact h2⟩
theorem Buf.pure (h : Buf w o b l) (ht : Below w.heap.size w w') : Buf w' o b l := h.to_ (To.pure (fun _ => False) ht o) id
theorem Buf.drew (h : Buf w o b l) : Buf w.drew o b l := h
theorem Buf.drewN (n : Nat) (h : Buf w o b l) : Buf (w.drewN n) o b l := h
theorem Buf.alloc (h : Buf w o b l) (x : Obj) : Buf (w.alloc x) o b l := h.pure ((Below.refl _ _).alloc (Nat.le_refl _) x)
theorem BufTo.from_pure {w0 : World} {e : Ending} (hb : Below w0.heap.size w0 w) (h : BufTo w o b l e w') : BufTo w0 o b l e w' := by
  obtain ⟨h1, o', h2, h3⟩ := h
  exact ⟨h1, o', h2, h3.from_pure hb⟩
theorem Buf.fresh (h : Buf w o b l) (hb : Below w.heap.size w w') (i : Nat) : Buf w' (newO o w.heap.size i) b l := h.to_ (To.fresh (fun _ => False) hb o i) id
theorem BufTo.from_fresh {w0 : World} {i : Nat} {e : Ending} (hb : Below w0.heap.size w0 w) (h : BufTo w (newO o w0.heap.size i) b l e w') : BufTo w0 o b l e w' := by
  obtain ⟨h1, o', h2, h3⟩ := h
  exact ⟨h1, o', h2, (To.fresh _ hb o i).trans h3⟩
theorem Buf.lt (h : Buf w o b l) : b < w.heap.size := by obtain ⟨A, n, c, hb, _⟩ := h; exact hb.lt
theorem Buf.own (h : Buf w o b l) : o b = 1 := by obtain ⟨A, n, c, _, _, _, h⟩ := h; exact h
end
theorem bnone_spec (b : Nat) (w : World) (h : w.cell? ⟨b, 0, none⟩ = some (.bool true)) :
    Calls Tryz.prog 194 #[.pointer (some ⟨b, 0, none⟩)] w fun e w' => e = .returned (.bool false) ∧ w = w' := by
  go_enter Tryz.func194, Tryz.ntmps194
  go_wp2
  go_ret
  exact ⟨rfl, rfl⟩
theorem berr_spec (b : Nat) (w : World) (h : w.cell? ⟨b, 0, none⟩ = some (.bool true)) (h3 : w.cell? ⟨b, 3, none⟩ = some (.int .i64 0)) :
    Calls Tryz.prog 201 #[.pointer (some ⟨b, 0, none⟩)] w fun e w' => e = .returned (.int .i64 0) ∧ w = w' := by
  go_enter Tryz.func201, Tryz.ntmps201
  go_wp2_with (go_at_call 194; refine (bnone_spec b _ (by assumption)).mono ?_; rintro e w' ⟨rfl, rfl⟩)
  go_ret
  exact ⟨rfl, rfl⟩
theorem blen_spec (b n c : Nat) (A : Option Addr) (w : World) (h : w.cell? ⟨b, 0, none⟩ = some (.bool true)) (h3 : w.cell? ⟨b, 1, none⟩ = some (.slice A n c)) :
    Calls Tryz.prog 129 #[.pointer (some ⟨b, 0, none⟩)] w fun e w' => e = .returned (.int .i64 n) ∧ w = w' := by
  go_enter Tryz.func129, Tryz.ntmps129
  go_wp2_with (go_at_call 194; refine (bnone_spec b _ (by assumption)).mono ?_; rintro e w' ⟨rfl, rfl⟩)
  go_ret
  exact ⟨rfl, rfl⟩
theorem berr_is {w : World} {o : Nat → Nat} {b : Nat} {l : List UInt8} (h : Buf w o b l) : Calls Tryz.prog 201 #[.pointer (some ⟨b, 0, none⟩)] w fun e w' => e = .returned (.int .i64 0) ∧ w = w' := by
  obtain ⟨A, n, c, hb, _⟩ := h
  exact berr_spec b w (hb.cell 0) (hb.cell 3)
theorem blen_is {w : World} {o : Nat → Nat} {b : Nat} {l : List UInt8} (n : Nat) (h : Buf w o b l) (hn : l.length = n) : Calls Tryz.prog 129 #[.pointer (some ⟨b, 0, none⟩)] w fun e w' => e = .returned (.int .i64 n) ∧ w = w' := by
  obtain ⟨A, n', c, hb, ho, _⟩ := h
  obtain rfl : n = n' := by rw [← hn, ho.1]
  exact blen_spec b n c A w (hb.cell 0) (hb.cell 1)
theorem put_post {w w1 : World} {o : Nat → Nat} {A A1 : Option Addr} {b n c n2 c1 : Nat} {l x : List UInt8} (hb : Blk w b 208 #[.bool true, .slice A n c, .int .i64 1048576, .int .i64 0]) (ho : OwnB w 0 A n c l) (h1 : Of o A 1) (h2 : o b = 1)
    (hw : OwnB w1 0 A1 (n + n2) c1 (l ++ x)) (hf : Fr (fun k => ∃ ad, A = some ad ∧ k = ad.block) w w1) (hat : A1.map (·.block) = A.map (·.block) ∨ A1.map (·.block) = some w.heap.size)
    (hb1 : Blk w1 b 208 #[.bool true, .slice A n c, .int .i64 1048576, .int .i64 0]) :
    ∃ o', Buf (w1.setCell ⟨b, 1, none⟩ (.slice A1 (n + n2) c1)) o' b (l ++ x) ∧ To (fun i => i = 1) w o (w1.setCell ⟨b, 1, none⟩ (.slice A1 (n + n2) c1)) o' := by
  have hset : Fr (fun k => k = b) w1 (w1.setCell ⟨b, 1, none⟩ (.slice A1 (n + n2) c1)) := Fr.setCell (S := fun k => k = b) (Fr.refl _ _) (fun _ => rfl) _
  refine ⟨newO o w.heap.size 1, ⟨A1, n + n2, c1, by have := hb1.set_ 1 (.slice A1 (n + n2) c1); simpa using this, hw.fr hset ?_, h1.grown ho (Nat.le_refl _) hat rfl, by rw [newO_old hb.lt]; exact h2⟩, To.of_fr ((hf.mono (T := fun k => o k = 1) ?_).setCell (fun _ => h2) _) (fun _ _ h => h) 1⟩
  · rintro ad rfl rfl
    exact own_blk_ne hw.2 hb1 (by decide) (by simp [Value.ownBlock])
  · rintro i _ ⟨ad, rfl, rfl⟩
    exact h1 ad rfl
set_option maxHeartbeats 400000 in
theorem bput_spec (b m d : Nat) (X : Option Addr) (l x : List UInt8) (w : World) (o : Nat → Nat) (h : Buf w o b l) (hx : IsB w X m x) (hm : l.length + m ≤ 1048576) :
    Calls Tryz.prog 197 #[.pointer (some ⟨b, 0, none⟩), .slice X m d] w (BufTo w o b (l ++ x)) := by
  obtain ⟨A, n, c, hb, ho, h1, h2⟩ := h
  have c0 : w.cell? ⟨b, 0, none⟩ = some (.bool true) := hb.cell 0
  have c1 : w.cell? ⟨b, 1, none⟩ = some (.slice A n c) := hb.cell 1
  have c2 : w.cell? ⟨b, 2, none⟩ = some (.int .i64 1048576) := hb.cell 2
  have c3 : w.cell? ⟨b, 3, none⟩ = some (.int .i64 0) := hb.cell 3
  rw [ho.1] at hm
  have hne : ∀ ad, A = some ad → ad.block ≠ b := by
    rintro ad rfl e
    exact own_blk_ne ho.2 hb (by decide) (by simp [Value.ownBlock, e])
  have HO := Lib.hid ho
  have HX := Lib.hid hx
  have HB := Lib.hid hb
  have HN := Lib.hid hne
  have H1 := Lib.hid h1
  have H2 := Lib.hid h2
  have hlt := hb.lt
  clear hb ho hx hne h1 h2
  go_enter Tryz.func197, Tryz.ntmps197
  go_wp2_with (go_at_call 201; refine (berr_spec b _ (by assumption) (by assumption)).mono ?_; rintro e w' ⟨rfl, rfl⟩)
  go_quiet (fail)
  go_wp2_with (at_builtin; refine wpl_app _ rfl (.tmp 8) (.tmp 9) _ rfl 5 _ 1 1 Tryz.underlying29 info_b rfl (by omega) bc_len bc_one _ _ _ _ _ rfl HO.out _ _ _ _ rfl HX.out (by omega) (Nat.zero_le _) ?_; intro A1 d1 w1 hown1 hfr0 hat1; have hfr1 := ((Fr.refl _ w).drewN _).trans hfr0 (fun _ _ h => h); have B1 := HB.out.fr hfr1 (by rintro ⟨ad, h, h'⟩; exact HN.out ad h h'.symm); have f1 := B1.frozen 1; have d1 : w1.cell? ⟨b, 1, none⟩ = some (.slice A n c) := B1.cell 1; have HB1 := Lib.hid B1; clear B1 c0 c1 c2 c3)
  go_end0
  exact ⟨rfl, put_post HB.out HO.out H1.out H2.out hown1 hfr1 hat1 HB1.out⟩
end Go.Proofs.YtfoifdoaleaekaaGreat

namespace Go.Proofs.YtfoifdoaleaekaaGreat
open Go.RowKit Go.Acc
theorem made_bc (n : Nat) : (madeCells #[.int .u8 0] n).toList = (List.replicate n (0 : UInt8)).flatMap bc := by
  apply List.ext_getElem?
  intro j
  by_cases hj : j < n
  · have h1 := fm_at bc_len (List.replicate n (0 : UInt8)) j 0 (by simpa using hj) (by omega)
    rw [Nat.mul_one, Nat.add_zero, List.getElem_replicate] at h1
    rw [h1]
    simp [madeCells, hj, bc, Nat.mod_one]
  · rw [List.getElem?_eq_none (by simp [madeCells]; omega), List.getElem?_eq_none (by rw [fm_length bc_len]; simp; omega)]
theorem make_b (n : Nat) (hn : n ≤ 1099511627776) : ∃ Z : Array Value, Z.size = n ∧ Z.toList = (List.replicate n (0 : UInt8)).flatMap bc ∧ ∀ W : World, (Instr.makeSlice 29 (.int .i64 (n : Int)) (.int .i64 (n : Int))).run Tryz.prog W = .ok (.slice (some ⟨W.heap.size, 0, none⟩) n n) (W.alloc (.cells Z 5)) := by
  obtain ⟨i, hi, hz, hs, hb⟩ := info_parts info_b
  have hm := made_bc n
  refine ⟨_, ?_, hm, fun W => ?_⟩
  · have := congrArg List.length hm
    rw [fm_length bc_len] at this
    simpa using this
  · have hr := run_make (P := Tryz.prog) W 29 5 i _ Tryz.underlying29 hi hz .i64 .i64 n n (by omega) (Int.le_refl _) (by rw [hb]; omega) (by omega)
    simp only [Int.toNat_natCast, hs, Nat.mul_one] at hr
    exact hr
theorem ownb_lit (W : World) (Z : Array Value) (n B : Nat) (l : List UInt8) (hB : B ≤ W.heap.size) (hn : l.length = n) (hm : n ≤ 1099511627776) (hZ : Z.toList = l.flatMap bc) : OwnB (W.alloc (.cells Z 5)) B (some ⟨W.heap.size, 0, none⟩) n n l := by
  refine ⟨hn, ?_⟩
  have hs : Z.size = n * 1 := by rw [← Array.length_toList, hZ, fm_length bc_len, hn]
  have := World.ownsRow_lit (base := B) (e := 5) (size := 1) W Z n hB (by simp only [maxLen]; omega) hs
  rw [hZ] at this
  exact this
end Go.Proofs.YtfoifdoaleaekaaGreat

namespace Go.Proofs.YtfoifdoaleaekaaGreat
open Go.RowKit Go.Acc
set_option maxHeartbeats 400000 in
theorem wcode_spec (x : Int) (w : World) (h : isW x = true) : Calls Tryz.prog 84 #[.int .i64 x] w fun e w' => (∃ c : Int, e = .returned (.tuple #[.int .i64 c, .int .i64 0])) ∧ w = w' := by
  rcases isW_iff.1 h with rfl | rfl | rfl | rfl
  all_goals
    clear h
    go_enter Tryz.func84, Tryz.ntmps84
    go_wp2
    refine wp_loop_rounds 5 ?_
    repeat (rw [rounds_succ]; go_wp2)
    all_goals
      go_ret2
      exact ⟨⟨_, rfl⟩, rfl⟩
theorem bwith_spec (b : Nat) (x : Int) (F : Nat) (caps : Array Value) (w : World) (R : Ending → World → Prop) (hx : isW x = true)
    (hF : ∀ (args : Array Value) (w : World), (callFunc F args).run Tryz.prog w = .ok (.enter F args) w)
    (h : Calls Tryz.prog F caps w fun e w' => e = .returned (.tuple #[]) ∧ R e w') :
    Calls Tryz.prog 195 #[.pointer (some ⟨b, 0, none⟩), .int .i64 x, .func (.func F) #[] caps] w R := by
  have HX := Lib.hid hx
  have HC := Lib.hid h
  clear hx h
  go_enter Tryz.func195, Tryz.ntmps195
  go_wp2_with (go_at_call 84; refine (wcode_spec x _ HX.out).mono ?_; rintro e w' ⟨⟨c, rfl⟩, rfl⟩)
  refine HC.out.mono ?_
  rintro e w' ⟨rfl, hR⟩
  have HR := Lib.hid hR
  clear hR hF
  go_wp2
  go_end0
  exact HR.out
end Go.Proofs.YtfoifdoaleaekaaGreat

namespace Go.Proofs.YtfoifdoaleaekaaGreat
open Go.Acc
def keysCost : List (List UInt8) → Nat
  | [] => 0
  | s :: r => s.length + 20 + keysCost r
mutual
/-- What a node may add: to the bytes, the stack, the pools, all taken together. -/
def Tr.cost : Tr → Nat
  | .mk _ _ _ s ks l => 64 + 2 * s.length + keysCost ks + Tr.costL l
def Tr.costL : List Tr → Nat
  | [] => 0
  | t :: r => 40 + Tr.cost t + Tr.costL r
end
def Bd.size (b : Bd) : Nat := b.b.length + b.s.length + b.keys.length + b.texts.length + b.lists.length + b.names.length + b.vals.length
theorem padN_le {w : Nat} (n : Nat) (hw : w ≤ 8) : padN w n ≤ 7 := by
  unfold padN
  rcases Nat.eq_zero_or_pos w with rfl | h
  · simp
  · have := Nat.mod_lt (w - n % w) h
    omega
theorem alignB_len {w : Nat} (b : List UInt8) (hw : w ≤ 8) : (alignB w b).length ≤ b.length + 7 := by
  have := padN_le b.length hw
  simp [alignB]; omega
theorem elemsB_len {w : Nat} (vs : List Bv) (l : List UInt8) (hw : w ≤ 8) : (elemsB w l vs).length ≤ l.length + 8 * vs.length := by
  obtain ⟨m, e, h⟩ := elemsB_app w vs l
  have := Nat.mul_le_mul_right vs.length hw
  rw [e, List.length_append]; omega
theorem bVec_len (t : Nat) (len tags : Bool) (l : List Bv) (b : List UInt8) : (bVec t len tags l b).1.length ≤ b.length + 15 + 9 * l.length := by
  have h8 : fitAll b.length (if len = true then 1 else 0) none l ≤ 8 := leastW_le _
  have h1 := alignB_len b h8
  unfold bVec
  simp only [List.length_append]
  have h2 := elemsB_len l (alignB (fitAll b.length (if len = true then 1 else 0) none l) b ++ (if len = true then leBytes (fitAll b.length (if len = true then 1 else 0) none l) l.length else [])) h8
  have h3 : (if len = true then leBytes (fitAll b.length (if len = true then 1 else 0) none l) l.length else []).length ≤ 8 := by
    split
    · rw [leBytes_length]; exact leastW_le _
    · simp
  have h4 : (if tags = true then l.map (bTag (fitAll b.length (if len = true then 1 else 0) none l)) else []).length ≤ l.length := by
    split <;> simp
  rw [List.length_append] at h2
  omega
theorem mapB_len (k : Bv) (l : List Bv) (b : List UInt8) : (mapB k l b).1.length ≤ b.length + 31 + 9 * l.length := by
  have h8 : fitAll b.length 3 (some k) l ≤ 8 := leastW_le _
  have h1 := alignB_len b h8
  unfold mapB
  simp only [List.length_append, List.length_map]
  generalize hw : fitAll b.length 3 (some k) l = w at *
  have h2 := elemsB_len l (alignB w b ++ leBytes w ((alignB w b).length - k.n) ++ leBytes w k.w ++ leBytes w l.length) h8
  simp only [List.length_append, leBytes_length] at h2
  omega
theorem putP_len (l : List (List UInt8 × Nat)) (k : List UInt8) (a : Nat) : (putP l k a).length ≤ l.length + 1 := by
  unfold putP; split <;> simp
theorem put_size (f : Nat) (s : List UInt8) (b : Bd) : (b.put f s).1.size ≤ b.size + s.length + 3 ∧ (b.put f s).1.s = b.s := by
  unfold Bd.put
  have h := putP_len b.keys s b.b.length
  cases (if onF f 1 = true then getP b.keys s else none) with
  | some a => exact ⟨by simp; omega, rfl⟩
  | none => exact ⟨by simp [Bd.size]; omega, rfl⟩
theorem key_size (f : Nat) (s : List UInt8) (b : Bd) : (b.key f s).size ≤ b.size + s.length + 4 := by
  have h := (put_size f s b).1
  simp only [Bd.key, Bd.push, Bd.size, List.length_append, List.length_cons, List.length_nil] at h ⊢
  omega
theorem puts_size (f : Nat) : ∀ (l : List Tr) (b : Bd), (b.puts f (l.map Tr.s)).1.size + 90 * l.length ≤ b.size + Tr.costL l
  | [], b => by simp [Bd.puts, Tr.costL]
  | .mk k n u s ks c :: r, b => by
    have h1 := (put_size f s b).1
    have h2 := puts_size f r (b.put f s).1
    simp only [List.map_cons, Bd.puts, Tr.costL, Tr.cost, Tr.s, List.length_cons]
    omega
theorem puts_len (f : Nat) : ∀ (l : List (List UInt8)) (b : Bd), (b.puts f l).2.length = l.length
  | [], b => by simp [Bd.puts]
  | s :: r, b => by simp [Bd.puts, puts_len f r]
theorem vec_size (t : Nat) (len tags : Bool) (l : List Bv) (b : Bd) : (b.vec t len tags l).size ≤ b.size + 16 + 9 * l.length := by
  have h := bVec_len t len tags l b.b
  simp only [Bd.vec, Bd.size, List.length_append, List.length_cons, List.length_nil]
  omega
theorem costL_len (l : List Tr) : 40 * l.length ≤ Tr.costL l := by
  induction l with
  | nil => simp
  | cons t r ih => simp only [Tr.costL, List.length_cons]; omega
theorem str_size (f : Nat) (s : List UInt8) (b : Bd) : (b.str f s).size ≤ b.size + s.length + 20 := by
  have h8 : bWidth s.length ≤ 8 := bWidth_le _
  have h1 := alignB_len b.b h8
  unfold Bd.str
  cases (if onF f 2 = true then getP b.texts s else none) with
  | some a => simp [Bd.push, Bd.size]; omega
  | none =>
    have h := putP_len b.texts s (alignB (bWidth s.length) b.b ++ leBytes (bWidth s.length) s.length).length
    simp only [Bd.size, List.length_append, leBytes_length, List.length_cons, List.length_nil] at h ⊢
    omega
theorem blob_size (s : List UInt8) (b : Bd) : (b.blob s).size ≤ b.size + s.length + 20 := by
  have h8 : bWidth s.length ≤ 8 := bWidth_le _
  have h1 := alignB_len b.b h8
  unfold Bd.blob
  simp only [Bd.size, List.length_append, leBytes_length, List.length_cons, List.length_nil]
  omega
theorem apart_size (t w n : Nat) (b : Bd) (hw : w ≤ 8) : (b.apart t w n).size ≤ b.size + 20 := by
  have h1 := alignB_len b.b hw
  unfold Bd.apart
  simp only [Bd.size, List.length_append, leBytes_length, List.length_cons, List.length_nil]
  omega
theorem push_size (b : Bd) (v : Bv) : (b.push v).size = b.size + 1 := by
  simp [Bd.push, Bd.size]; omega
theorem leaf_size (f : Nat) (k n : Int) (u : Nat) (s : List UInt8) (b : Bd) : (b.leaf f k n u s).size ≤ b.size + 64 + 2 * s.length := by
  have h1 := key_size f s b
  have h2 := str_size f s b
  have h3 := blob_size s b
  have h4 := apart_size 6 (bWidthI n) (bits n) b (bWidthI_le _)
  have h5 := apart_size 7 (bWidth u) u b (bWidth_le _)
  unfold Bd.leaf
  (repeat' split) <;> (try rw [push_size]) <;> omega
theorem flat_size (f : Nat) (k : Int) (l : List Tr) (b : Bd) : (b.flat f k l).size ≤ b.size + 64 + Tr.costL l := by
  have hl := costL_len l
  have hp := puts_size f l b
  have hn := puts_len f (l.map Tr.s) b
  rw [List.length_map] at hn
  have hv : ∀ (t : Nat) (len tags : Bool) (x : List Bv), x.length = l.length → (b.vec t len tags x).size ≤ b.size + 64 + Tr.costL l := by
    intro t len tags x hx
    have := vec_size t len tags x b
    omega
  unfold Bd.flat
  split
  · exact hv _ _ _ _ (by simp)
  split
  · exact hv _ _ _ _ (by simp)
  split
  · exact hv _ _ _ _ (by simp)
  split
  · -- keys: the strings twice
    have h := vec_size 14 true false (b.puts f (l.map Tr.s)).2 (b.puts f (l.map Tr.s)).1
    show (Bd.vec 14 true false (b.puts f (l.map Tr.s)).2 (b.puts f (l.map Tr.s)).1).size ≤ _
    omega
  split
  · exact hv _ _ _ _ (by simp)
  · exact hv _ _ _ _ (by simp)
theorem endVec_size (start : Nat) (b : Bd) (n : Nat) (h : (b.s.drop start).length = n) : (b.endVec start).size ≤ b.size + 16 + 9 * n := by
  have h1 := bVec_len 10 true true (b.s.drop start) b.b
  have h3 : (b.s.take start).length ≤ b.s.length := by rw [List.length_take]; omega
  simp only [Bd.endVec, Bd.vec, Bd.size, List.length_append, List.length_cons, List.length_nil]
  omega
theorem callsL_size (f : Nat) : ∀ (c : List Tr), (∀ t ∈ c, Does f t) → (∀ t ∈ c, ∀ b, Good b → (Bd.calls f t b).size ≤ b.size + t.cost) → ∀ b, Good b → (Bd.callsL f c b).size + 40 * c.length ≤ b.size + Tr.costL c
  | [], _, _, b, h => by simp [Bd.callsL, Tr.costL]
  | t :: r, hd, hc, b, h => by
    obtain ⟨v, e1, s1, r1⟩ := hd t (by simp) b h
    have h1 := hc t (by simp) b h
    have h2 := callsL_size f r (fun t ht => hd t (by simp [ht])) (fun t ht => hc t (by simp [ht])) (Bd.calls f t b) s1.2
    simp only [Bd.callsL, Tr.costL, List.length_cons]
    omega
theorem callsM_size (f : Nat) : ∀ (c : List Tr) (ks : List (List UInt8)), ks.length = c.length → (∀ t ∈ c, Does f t) → (∀ t ∈ c, ∀ b, Good b → (Bd.calls f t b).size ≤ b.size + t.cost) → ∀ b, Good b → (Bd.callsM f ks c b).size + 50 * c.length ≤ b.size + keysCost ks + Tr.costL c
  | [], ks, hk, _, _, b, h => by simp [Bd.callsM, Tr.costL]
  | t :: r, [], hk, _, _, _, _ => by simp at hk
  | t :: r, s :: ks, hk, hd, hc, b, h => by
    obtain ⟨kv, e0, s0, k0⟩ := key_law f s b h
    have h0 := key_size f s b
    obtain ⟨v, e1, s1, r1⟩ := hd t (by simp) (b.key f s) s0.2
    have h1 := hc t (by simp) (b.key f s) s0.2
    have h2 := callsM_size f r ks (by simpa using hk) (fun t ht => hd t (by simp [ht])) (fun t ht => hc t (by simp [ht])) (Bd.calls f t (b.key f s)) s1.2
    have ee : Bd.callsM f (s :: ks) (t :: r) b = Bd.callsM f ks r (Bd.calls f t (b.key f s)) := by rw [Bd.callsM]; rfl
    rw [ee]
    simp only [Tr.costL, List.length_cons, keysCost]
    omega
theorem endMap_size (f : Nat) (ks : List (List UInt8)) (start : Nat) (b : Bd) (n : Nat) (h1 : (evens (b.s.drop start)).length = n) (h2 : (odds (b.s.drop start)).length = n) :
    (b.endMap f ks start).size ≤ b.size + 50 + 18 * n := by
  have h3 : (b.s.take start).length ≤ b.s.length := by rw [List.length_take]; omega
  unfold Bd.endMap
  simp only []
  cases (if onF f 4 = true then getP b.lists (ks.flatMap fun s => s ++ [0]) else none) with
  | some i =>
    have h := mapB_len (b.vals.getD i ⟨0, 0, 0⟩) (odds (b.s.drop start)) b.b
    simp only [Bd.size, List.length_append, List.length_cons, List.length_nil] at h ⊢
    omega
  | none =>
    have h4 := bVec_len 14 true false (evens (b.s.drop start)) b.b
    have h := mapB_len (bVec 14 true false (evens (b.s.drop start)) b.b).2 (odds (b.s.drop start)) (bVec 14 true false (evens (b.s.drop start)) b.b).1
    have h5 := putP_len b.lists (ks.flatMap fun s => s ++ [0]) b.vals.length
    simp only [Bd.size, List.length_append, List.length_cons, List.length_nil] at h ⊢
    omega
theorem calls_size (f : Nat) (t : Tr) (h : Ok t) : ∀ b, Good b → (Bd.calls f t b).size ≤ b.size + t.cost := by
  induction h with
  | leaf n u s ks c h1 h2 =>
    intro b hg
    rename_i k
    have e : Bd.calls f (.mk k n u s ks c) b = b.leaf f k n u s := by
      rw [Bd.calls, if_neg (by omega), if_neg (by omega), if_pos h2]
    rw [e, Tr.cost]
    have := leaf_size f k n u s b
    omega
  | flat n u s ks c h1 h2 =>
    intro b hg
    rename_i k
    have e : Bd.calls f (.mk k n u s ks c) b = b.flat f k c := by
      rw [Bd.calls, if_neg (by omega), if_neg (by omega), if_neg (by omega)]
    rw [e, Tr.cost]
    have := flat_size f k c b
    omega
  | vec n u s ks hd ih =>
    intro b hg
    rename_i c
    obtain ⟨vs, e1, l1, s1, r1⟩ := callsL_law f c (fun t ht => calls_law f t (hd t ht)) b hg
    have h1 := callsL_size f c (fun t ht => calls_law f t (hd t ht)) ih b hg
    have e : Bd.calls f (.mk 10 n u s ks c) b = (Bd.callsL f c b).endVec b.s.length := by rw [Bd.calls, if_pos rfl]
    have hv : (Bd.callsL f c b).s.drop b.s.length = vs := by rw [e1]; simp
    have h2 := endVec_size b.s.length (Bd.callsL f c b) c.length (by rw [hv, l1])
    rw [e, Tr.cost]
    omega
  | map n u s hl h0 hd ih =>
    intro b hg
    rename_i c ks
    obtain ⟨kvs, vs, e1, l1, s1, k1, r1⟩ := callsM_law f c ks hl (fun t ht => calls_law f t (hd t ht)) b hg
    have h1 := callsM_size f c ks hl (fun t ht => calls_law f t (hd t ht)) ih b hg
    have e : Bd.calls f (.mk 17 n u s ks c) b = (Bd.callsM f ks c b).endMap f ks b.s.length := by
      rw [Bd.calls, if_neg (by omega), if_pos rfl]
    have hv : (Bd.callsM f ks c b).s.drop b.s.length = both kvs vs := by rw [e1]; simp
    obtain ⟨ev, od⟩ := evens_both kvs vs (by rw [k1.1, l1, hl])
    have h2 := endMap_size f ks b.s.length (Bd.callsM f ks c b) c.length (by rw [hv, ev, k1.1, hl]) (by rw [hv, od, l1])
    rw [e, Tr.cost]
    omega
end Go.Proofs.YtfoifdoaleaekaaGreat
