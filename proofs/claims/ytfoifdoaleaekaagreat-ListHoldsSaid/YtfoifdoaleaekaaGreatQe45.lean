/-
  Package list, plain: what the readers of lists find in a built document. No program in sight.
  Package list, plain: the elements of a list node in a built document. No program in sight.
  Package list, plain: a built document with bytes ahead, as the readers of lists find it. No program in sight.
-/
import Derived.Test.YtfoifdoaleaekaaGreatQe44
namespace Go.Proofs.YtfoifdoaleaekaaGreat
open Go.Acc
structure LstIn (L : List UInt8) (s : Nat) (vs : List Bv) (v : Bv) : Prop where
  w : isW (v.w : Int) = true
  typ : isL (v.t : Int) = true
  md : (s + v.n) % v.w = 0
  ah : aheadT (v.t : Int) * v.w ≤ s + v.n
  n1 : 0 < manyT (v.t : Int) → manyT (v.t : Int) = (vs.length : Int)
  n2 : ¬ 0 < manyT (v.t : Int) → loadU L (((s + v.n : Nat) : Int) - (v.w : Int)) (v.w : Int) = vs.length
  sp : s + v.n + vs.length * (v.w + tgs (v.t : Int)) ≤ L.length
  tags : tagT (v.t : Int) = true → At L (s + v.n + vs.length * v.w) (vs.map (bTag v.w))
  el : ∀ (i : Nat) y, vs[i]? = some y → At L (s + v.n + i * v.w) (leBytes v.w (elemN v.w (v.n + i * v.w) y)) ∧ Elem v.w (v.n + i * v.w) y
theorem mod_align {w n : Nat} (hw : isW (w : Int) = true) (b : List UInt8) (k : Nat) (h : n = (alignB w b).length + k * w) : n % w = 0 := by
  have := (align_len hw b).2.1
  rw [h, Nat.add_mul_mod_self_right]
  exact this
theorem VecAt.mod {l : List UInt8} {t : Nat} {len tags : Bool} {vs : List Bv} {v : Bv} (h : VecAt l t len tags vs v) : v.n % v.w = 0 := by
  have hw := h.width.2
  obtain ⟨b, m, rfl, rfl, _⟩ := h
  obtain ⟨w, hwd⟩ : ∃ w, fitAll b.length (if len = true then 1 else 0) none vs = w := ⟨_, rfl⟩
  simp only [bVec, hwd] at hw ⊢
  refine mod_align hw b (if len = true then 1 else 0) ?_
  rw [List.length_append]
  cases len <;> simp [leBytes_length]
theorem MapAt.mod {l : List UInt8} {k : Bv} {vs : List Bv} {v : Bv} (h : MapAt l k vs v) : v.n % v.w = 0 := by
  have hw := h.width.2
  obtain ⟨b, m, rfl, rfl, _⟩ := h
  obtain ⟨w, hwd⟩ : ∃ w, fitAll b.length 3 (some k) vs = w := ⟨_, rfl⟩
  simp only [mapB, hwd] at hw ⊢
  refine mod_align hw b 3 ?_
  simp only [List.length_append, leBytes_length]
  omega
theorem mod_ahead {s n w : Nat} (hw : isW (w : Int) = true) (hs : s % 8 = 0) (h : n % w = 0) : (s + n) % w = 0 := by
  rcases isW_nat.1 hw with rfl | rfl | rfl | rfl <;> omega
theorem load_len {L : List UInt8} {a w u : Nat} (hw : isW (w : Int) = true) (h : At L a (leBytes w u)) (hu : u < 2 ^ (8 * w)) : loadU L (a : Int) (w : Int) = u := by
  rw [h.load hw, leVal_leBytes, Nat.mod_eq_of_lt hu]
theorem ty_facts : ∀ T ∈ [9, 10, 11, 12, 14, 36, 16, 17, 19, 20, 22, 23], isL (T : Nat) = true ∧ inlineT (T : Nat) = false := by decide
theorem ty_free : ∀ T ∈ [10, 11, 12, 14, 36], manyT ((T : Nat) : Int) = 0 ∧ aheadT ((T : Nat) : Int) = 1 := by decide
theorem ty_fix : ∀ T ∈ [16, 17, 19, 20, 22, 23], aheadT ((T : Nat) : Int) = 0 ∧ tgs ((T : Nat) : Int) = 0 ∧ tagT ((T : Nat) : Int) = false := by decide
theorem ty_typed : ∀ T ∈ [11, 12, 14, 36], tgs ((T : Nat) : Int) = 0 ∧ tagT ((T : Nat) : Int) = false := by decide
theorem vec_list {l : List UInt8} {T : Nat} {tags : Bool} {vs : List Bv} {v : Bv} (h : VecAt l T true tags vs v) (hb : l.length < 2 ^ 32) (x : List UInt8) (hx : x.length % 8 = 0) (hT : (T = 10 ∧ tags = true) ∨ ((T = 11 ∨ T = 12 ∨ T = 14 ∨ T = 36) ∧ tags = false)) :
    LstIn (x ++ l) x.length vs v := by
  obtain ⟨ht, hw⟩ := h.width
  have hm := h.mod
  have hf := h.facts hb x
  obtain ⟨c, hc, ha, hl⟩ := hf.len rfl
  have h5 : T ∈ [10, 11, 12, 14, 36] := by simp; omega
  obtain ⟨m1, m2⟩ := ty_free T h5
  have hle : vs.length * v.w + vs.length * tgs (v.t : Int) ≤ vs.length * v.w + (if tags = true then vs.length else 0) := by
    rw [ht]
    rcases hT with ⟨rfl, rfl⟩ | ⟨hT, rfl⟩
    · have e : tgs ((10 : Nat) : Int) = 1 := by decide
      rw [e]
      simp
    · have := (ty_typed T (by simp; omega)).1
      rw [this]
      simp
  refine ⟨hw, ?_, mod_ahead hw hx hm, ?_, ?_, ?_, ?_, ?_, ?_⟩
  · rw [ht]
    exact (ty_facts T (by simp; omega)).1
  · rw [ht, m2, hc]
    omega
  · rw [ht, m1]
    intro h0
    omega
  · intro _
    have e : ((x.length + v.n : Nat) : Int) - (v.w : Int) = ((x.length + c : Nat) : Int) := by omega
    rw [e]
    exact load_len hw ha hl
  · rw [Nat.mul_add]
    have h1 := hf.le
    cases tags with
    | false => simp only [Bool.false_eq_true, if_false] at hle; omega
    | true =>
      have h2 := (hf.tags rfl).le
      rw [List.length_map] at h2
      simp only [if_true] at hle
      omega
  · rw [ht]
    rcases hT with ⟨rfl, rfl⟩ | ⟨hT, rfl⟩
    · intro _
      have := hf.tags rfl
      rwa [← Nat.add_assoc] at this
    · rw [(ty_typed T (by simp; omega)).2]
      intro h
      cases h
  · intro i y hy
    obtain ⟨h1, h2⟩ := hf.el i y hy
    rw [← Nat.add_assoc] at h1
    exact ⟨h1, h2⟩
theorem fix_list {l : List UInt8} {T : Nat} {vs : List Bv} {v : Bv} (h : VecAt l T false false vs v) (hb : l.length < 2 ^ 32) (x : List UInt8) (hx : x.length % 8 = 0) (hT : T = 16 ∨ T = 17 ∨ T = 19 ∨ T = 20 ∨ T = 22 ∨ T = 23) (hn : manyT (T : Int) = (vs.length : Int)) :
    LstIn (x ++ l) x.length vs v := by
  obtain ⟨ht, hw⟩ := h.width
  have hm := h.mod
  have hf := h.facts hb x
  have h5 : T ∈ [16, 17, 19, 20, 22, 23] := by simp; omega
  obtain ⟨m1, m2, m3⟩ := ty_fix T h5
  refine ⟨hw, ?_, mod_ahead hw hx hm, ?_, ?_, ?_, ?_, ?_, ?_⟩
  · rw [ht]
    exact (ty_facts T (by simp; omega)).1
  · rw [ht, m1]
    omega
  · rw [ht]
    intro _
    exact hn
  · rw [ht]
    intro h0
    have hp : 0 < manyT (T : Int) := by
      rcases hT with rfl | rfl | rfl | rfl | rfl | rfl <;> decide
    exact absurd hp h0
  · rw [ht, m2, Nat.add_zero, Nat.add_assoc]
    exact hf.le
  · rw [ht, m3]
    intro h
    cases h
  · intro i y hy
    obtain ⟨h1, h2⟩ := hf.el i y hy
    rw [← Nat.add_assoc] at h1
    exact ⟨h1, h2⟩
theorem map_list {l : List UInt8} {k : Bv} {vs : List Bv} {v : Bv} (h : MapAt l k vs v) (hk : inl k.t = false) (hb : l.length < 2 ^ 32) (x : List UInt8) (hx : x.length % 8 = 0) : LstIn (x ++ l) x.length vs v := by
  obtain ⟨ht, hw⟩ := h.width
  have hm := h.mod
  have hf := h.facts hk hb x
  obtain ⟨c, hc, _, _, _, _, ha, hl⟩ := hf.head
  have m2 : aheadT (9 : Int) = 3 := by decide
  have m1 : manyT (9 : Int) = 0 := by decide
  have m3 : tgs (9 : Int) = 1 := by decide
  refine ⟨hw, ?_, mod_ahead hw hx hm, ?_, ?_, ?_, ?_, ?_, ?_⟩
  · rw [ht]
    decide
  · rw [ht]
    show aheadT (9 : Int) * v.w ≤ _
    rw [m2, hc]
    omega
  · rw [ht]
    show 0 < manyT (9 : Int) → manyT (9 : Int) = _
    rw [m1]
    intro h0
    omega
  · intro _
    have e : ((x.length + v.n : Nat) : Int) - (v.w : Int) = ((x.length + (c + 2 * v.w) : Nat) : Int) := by omega
    rw [e]
    exact load_len hw ha hl
  · rw [ht]
    show x.length + v.n + vs.length * (v.w + tgs (9 : Int)) ≤ _
    rw [m3, Nat.mul_add]
    have h1 := hf.le
    have h2 := hf.tags.le
    rw [List.length_map] at h2
    omega
  · intro _
    have := hf.tags
    rwa [← Nat.add_assoc] at this
  · intro i y hy
    obtain ⟨h1, h2⟩ := hf.el i y hy
    rw [← Nat.add_assoc] at h1
    exact ⟨h1, h2⟩
structure Leads (L : List UInt8) (s : Nat) (v : Bv) (p q : Int) : Prop where
  may : mayE L.length p q (v.t : Int) (v.w : Int) = 0
  tgE : tgtE L p q (v.t : Int) (v.w : Int) = 0
  tg : tgt L p q (v.t : Int) (v.w : Int) = ((s + v.n : Nat) : Int)
theorem lst_len {L : List UInt8} {s : Nat} {vs : List Bv} {v : Bv} {p q : Int} (h : LstIn L s vs v) (r : Leads L s v p q) :
    lsE L p q (v.t : Int) (v.w : Int) = 0 ∧ lsLen L p q (v.t : Int) (v.w : Int) = vs.length ∧ lsAt L p q (v.t : Int) (v.w : Int) = s + v.n := by
  have hN : lsN L p q (v.t : Int) (v.w : Int) = vs.length := by
    unfold lsN
    by_cases hm : 0 < manyT (v.t : Int)
    · rw [if_pos hm, h.n1 hm]
      rfl
    · rw [if_neg hm, r.tg]
      exact h.n2 hm
  have hE : lsE L p q (v.t : Int) (v.w : Int) = 0 := by
    unfold lsE
    rw [r.may, r.tgE, r.tg, h.typ, hN]
    have h1 := h.md
    have h2 := h.ah
    have h3 := h.sp
    unfold lsX
    rw [if_neg (by simp), if_neg (by simp), if_neg (by simp), if_neg (by omega), Int.toNat_natCast, Int.toNat_natCast, if_neg (by omega), if_neg (by omega)]
  refine ⟨hE, ?_, ?_⟩
  · unfold lsLen
    rw [if_pos hE, hN]
  · unfold lsAt
    rw [if_pos hE, r.tg]
    rfl
theorem lst_at {L : List UInt8} {s : Nat} {vs : List Bv} {v : Bv} {p q : Int} (h : LstIn L s vs v) (r : Leads L s v p q) {i : Nat} {y : Bv} (hy : vs[i]? = some y) (hl : tagT (v.t : Int) = true → legalT (y.t : Int) = true ∧ isW (y.w : Int) = true) :
    atE L p q (v.t : Int) (v.w : Int) (i : Int) = 0 ∧ atP L p q (v.t : Int) (v.w : Int) (i : Int) = ((s + v.n + i * v.w : Nat) : Int) ∧ atQ L p q (v.t : Int) (v.w : Int) (i : Int) = (v.w : Int) ∧
      atT L p q (v.t : Int) (v.w : Int) (i : Int) = (if tagT (v.t : Int) = true then (y.t : Int) else elemT (v.t : Int)) ∧ atV L p q (v.t : Int) (v.w : Int) (i : Int) = (if tagT (v.t : Int) = true then (ownW v.w y : Int) else (v.w : Int)) := by
  obtain ⟨e1, e2, e3⟩ := lst_len h r
  have hi := (List.getElem?_eq_some_iff.1 hy).1
  have htag : tagT (v.t : Int) = true → tagB L p q (v.t : Int) (v.w : Int) (i : Int) = bTag v.w y := by
    intro ht
    have ha := h.tags ht
    unfold tagB
    rw [e3, e2, Int.toNat_natCast, Int.toNat_natCast, List.getD_eq_getElem?_getD, ha.get (by simpa using hi), List.getElem?_map, hy]
    rfl
  have hun : tagT (v.t : Int) = true → unT (bTag v.w y) = (y.t : Int) ∧ unW (bTag v.w y) = (ownW v.w y : Int) ∧ unE (bTag v.w y) = 0 := by
    intro ht
    obtain ⟨g1, g2⟩ := hl ht
    have how : isW (ownW v.w y : Int) = true := by
      unfold ownW
      split
      · exact h.w
      · exact g2
    exact tag_is y.t (ownW v.w y) g1 how
  have hE : atE L p q (v.t : Int) (v.w : Int) (i : Int) = 0 := by
    unfold atE
    rw [e1, e2, if_neg (by simp), if_neg (by omega)]
    by_cases ht : tagT (v.t : Int) = true
    · rw [if_pos ht, htag ht]
      exact (hun ht).2.2
    · rw [if_neg ht]
  refine ⟨hE, ?_, ?_, ?_, ?_⟩
  · unfold atP
    rw [if_pos hE, e3, Int.toNat_natCast, Int.toNat_natCast]
    omega
  · unfold atQ
    rw [if_pos hE]
  · unfold atT
    rw [if_pos hE]
    by_cases ht : tagT (v.t : Int) = true
    · rw [if_pos ht, if_pos ht, htag ht]
      exact (hun ht).1
    · rw [if_neg ht, if_neg ht]
  · unfold atV
    rw [if_pos hE]
    by_cases ht : tagT (v.t : Int) = true
    · rw [if_pos ht, if_pos ht, htag ht]
      exact (hun ht).2.1
    · rw [if_neg ht, if_neg ht]
end Go.Proofs.YtfoifdoaleaekaaGreat

namespace Go.Proofs.YtfoifdoaleaekaaGreat
open Go.Acc
def ElKind (T : Int) (y : Bv) (c : Tr) : Prop := (tagT T = true → legalT (y.t : Int) = true ∧ isW (y.w : Int) = true ∧ kindT (y.t : Int) = c.k) ∧ (tagT T = false → kindT (elemT T) = c.k)
theorem typed_kind {T : Nat} {K : Int} {c : List Tr} {vs : List Bv} (hT : tagT (T : Int) = false) (hk : kindT (elemT (T : Int)) = K) (hp : ∀ x ∈ c, x.k = K) : ∀ (i : Nat) y x, vs[i]? = some y → c[i]? = some x → ElKind (T : Int) y x := by
  intro i y x _ hx
  refine ⟨fun h => ?_, fun _ => ?_⟩
  · rw [hT] at h
    cases h
  · rw [hk, hp x (List.mem_of_getElem? hx)]
theorem many_fix {n : Nat} (h : n = 2 ∨ n = 3 ∨ n = 4) : (manyT ((10 + 3 * n : Nat) : Int) = (n : Int) ∧ manyT ((11 + 3 * n : Nat) : Int) = (n : Int)) ∧ (tagT ((10 + 3 * n : Nat) : Int) = false ∧ kindT (elemT ((10 + 3 * n : Nat) : Int)) = 3) ∧ (tagT ((11 + 3 * n : Nat) : Int) = false ∧ kindT (elemT ((11 + 3 * n : Nat) : Int)) = 4) := by
  rcases h with rfl | rfl | rfl <;> decide
theorem rep_list {l : List UInt8} {v : Bv} {t : Tr} (hr : Rep l v t) (hx : FixOk t) (hc : ∀ c ∈ t.l, FixOk c) (hp : ∀ c ∈ t.l, partOf t.k = 0 ∨ c.k = partOf t.k) (hk : 10 ≤ t.k) (hb : l.length < 2 ^ 32) (x : List UInt8) (h8 : x.length % 8 = 0) :
    ∃ vs, LstIn (x ++ l) x.length vs v ∧ vs.length = t.l.length ∧ inlineT (v.t : Int) = false ∧ ∀ (i : Nat) y c, vs[i]? = some y → t.l[i]? = some c → ElKind (v.t : Int) y c := by
  cases hr with
  | null => exact absurd (id hk : (10 : Int) ≤ 1) (by decide)
  | truth => exact absurd (id hk : (10 : Int) ≤ 2) (by decide)
  | int => exact absurd (id hk : (10 : Int) ≤ 3) (by decide)
  | uint => exact absurd (id hk : (10 : Int) ≤ 4) (by decide)
  | key => exact absurd (id hk : (10 : Int) ≤ 5) (by decide)
  | str => exact absurd (id hk : (10 : Int) ≤ 6) (by decide)
  | blob => exact absurd (id hk : (10 : Int) ≤ 7) (by decide)
  | indInt => exact absurd (id hk : (10 : Int) ≤ 8) (by decide)
  | indUint => exact absurd (id hk : (10 : Int) ≤ 9) (by decide)
  | @ints _ c n u s ks h =>
    have hp' : ∀ y ∈ c, y.k = 3 := fun y hy => (show partOf 11 = 0 ∨ y.k = partOf 11 from hp y hy).resolve_left (by decide)
    refine ⟨_, vec_list h hb x h8 (.inr ⟨.inl rfl, rfl⟩), by simp [Tr.l], by rw [h.width.1]; decide, ?_⟩
    rw [h.width.1]
    exact typed_kind (by decide) (by decide) hp'
  | @uints _ c n u s ks h =>
    have hp' : ∀ y ∈ c, y.k = 4 := fun y hy => (show partOf 12 = 0 ∨ y.k = partOf 12 from hp y hy).resolve_left (by decide)
    refine ⟨_, vec_list h hb x h8 (.inr ⟨.inr (.inl rfl), rfl⟩), by simp [Tr.l], by rw [h.width.1]; decide, ?_⟩
    rw [h.width.1]
    exact typed_kind (by decide) (by decide) hp'
  | @bools _ c n u s ks h =>
    have hp' : ∀ y ∈ c, y.k = 2 := fun y hy => (show partOf 14 = 0 ∨ y.k = partOf 14 from hp y hy).resolve_left (by decide)
    refine ⟨_, vec_list h hb x h8 (.inr ⟨.inr (.inr (.inr rfl)), rfl⟩), by simp [Tr.l], by rw [h.width.1]; decide, ?_⟩
    rw [h.width.1]
    exact typed_kind (by decide) (by decide) hp'
  | @keys _ c vs n u s ks hk' h =>
    have hp' : ∀ y ∈ c, y.k = 5 := fun y hy => (show partOf 13 = 0 ∨ y.k = partOf 13 from hp y hy).resolve_left (by decide)
    refine ⟨vs, vec_list h hb x h8 (.inr ⟨.inr (.inr (.inl rfl)), rfl⟩), by rw [hk'.1]; simp [Tr.l], by rw [h.width.1]; decide, ?_⟩
    rw [h.width.1]
    exact typed_kind (by decide) (by decide) hp'
  | @fixInts _ c n u s ks h =>
    have hn : c.length = 2 ∨ c.length = 3 ∨ c.length = 4 := hx (.inl rfl)
    have hp' : ∀ y ∈ c, y.k = 3 := fun y hy => (show partOf 15 = 0 ∨ y.k = partOf 15 from hp y hy).resolve_left (by decide)
    obtain ⟨⟨m1, _⟩, ⟨m3, m4⟩, _⟩ := many_fix hn
    refine ⟨_, fix_list h hb x h8 (by rcases hn with h | h | h <;> rw [h] <;> simp) (by rw [List.length_map]; exact m1), by simp [Tr.l], by rw [h.width.1]; rcases hn with h | h | h <;> rw [h] <;> decide, ?_⟩
    rw [h.width.1]
    exact typed_kind m3 m4 hp'
  | @fixUints _ c n u s ks h =>
    have hn : c.length = 2 ∨ c.length = 3 ∨ c.length = 4 := hx (.inr rfl)
    have hp' : ∀ y ∈ c, y.k = 4 := fun y hy => (show partOf 16 = 0 ∨ y.k = partOf 16 from hp y hy).resolve_left (by decide)
    obtain ⟨⟨_, m1⟩, _, ⟨m3, m4⟩⟩ := many_fix hn
    refine ⟨_, fix_list h hb x h8 (by rcases hn with h | h | h <;> rw [h] <;> simp) (by rw [List.length_map]; exact m1), by simp [Tr.l], by rw [h.width.1]; rcases hn with h | h | h <;> rw [h] <;> decide, ?_⟩
    rw [h.width.1]
    exact typed_kind m3 m4 hp'
  | @vec _ c vs n u s ks hl hrr h =>
    refine ⟨vs, vec_list h hb x h8 (.inl ⟨rfl, rfl⟩), hl, by rw [h.width.1]; decide, ?_⟩
    rw [h.width.1]
    intro i y e hy he
    obtain ⟨g1, g2, g3⟩ := (hrr i y e hy he).legal (hc e (List.mem_of_getElem? he))
    exact ⟨fun _ => ⟨g1, g2, g3⟩, fun h => by cases h⟩
  | @map _ kv c ks kvs vs n u s hk' hv hl hrr h =>
    have hkt : inl kv.t = false := by rw [hv.width.1]; decide
    refine ⟨vs, map_list h hkt hb x h8, hl, by rw [h.width.1]; decide, ?_⟩
    rw [h.width.1]
    intro i y e hy he
    obtain ⟨g1, g2, g3⟩ := (hrr i y e hy he).legal (hc e (List.mem_of_getElem? he))
    exact ⟨fun _ => ⟨g1, g2, g3⟩, fun h => by cases h⟩
theorem sort_kids {t : Tr} (h : Val t) : (∀ c ∈ (sortT t).l, FixOk c) ∧ (∀ c ∈ (sortT t).l, partOf (sortT t).k = 0 ∨ c.k = partOf (sortT t).k) ∧ (sortT t).l.length = t.l.length := by
  cases h with
  | mk h1 h2 h3 h4 hl =>
    rename_i k n u s ks l
    simp only [suchT, Bool.and_eq_true, decide_eq_true_eq] at h1
    obtain ⟨⟨⟨_, glen⟩, _⟩, gp⟩ := h1
    rw [sortT]
    by_cases hk : k = 17
    · rw [if_pos hk]
      have hp := sortE_perm (ks.zip (sortL l))
      have glen : ks.length = l.length := glen hk
      have hll : (sortL l).length = l.length := by rw [sortL_map, List.length_map]
      refine ⟨fun c hc => ?_, fun c _ => .inl ?_, ?_⟩
      · obtain ⟨y, hy, rfl⟩ := List.mem_map.1 hc
        have hy2 := (List.of_mem_zip (hp.mem_iff.1 hy)).2
        rw [sortL_map] at hy2
        obtain ⟨z, hz, e⟩ := List.mem_map.1 hy2
        rw [← e]
        exact sort_fix (hl z hz)
      · show partOf k = 0
        rw [hk]
        rfl
      · show (List.map (·.2) (sortE (ks.zip (sortL l)))).length = l.length
        rw [List.length_map, hp.length_eq, List.length_zip]
        omega
    · rw [if_neg hk]
      refine ⟨fun c hc => ?_, fun c hc => ?_, ?_⟩
      · have hc : c ∈ sortL l := hc
        rw [sortL_map] at hc
        obtain ⟨z, hz, e⟩ := List.mem_map.1 hc
        rw [← e]
        exact sort_fix (hl z hz)
      · have hc : c ∈ sortL l := hc
        rw [sortL_map] at hc
        obtain ⟨z, hz, e⟩ := List.mem_map.1 hc
        rw [← e, sort_k]
        exact of_decide_eq_true (List.all_eq_true.1 gp z hz)
      · show (sortL l).length = l.length
        rw [sortL_map, List.length_map]
end Go.Proofs.YtfoifdoaleaekaaGreat

namespace Go.Proofs.YtfoifdoaleaekaaGreat
open Go.Acc
theorem docB_app (b : List UInt8) (v : Bv) (w : Nat) : ∃ m, docB b v w = b ++ m := ⟨_, by unfold docB alignB; rw [List.append_assoc, List.append_assoc]⟩
theorem doc_leads {x b : List UInt8} {v : Bv} {w : Nat} (hw : isW (w : Int) = true) (ht : legalT (v.t : Int) = true) (hv : isW (v.w : Int) = true) (hb : b.length < 2 ^ 32) (hf : fitsV v b.length 0 w = true) (hi : inlineT (v.t : Int) = false) :
    Leads (x ++ docB b v w) x.length v ((x.length + (alignB w b).length : Nat) : Int) (w : Int) := by
  have ho : ownW w v = v.w := by unfold ownW; rw [show inl v.t = false from hi]; rfl
  have hm := doc_may (x := x) (b := b) hw ht hv
  obtain ⟨_, h2⟩ := doc_target (x := x) hw ht hv hb hf
  obtain ⟨a, c, _⟩ := h2 hi
  rw [ho] at hm a c
  exact ⟨hm, a, c⟩
theorem rep_leaf {l : List UInt8} {v : Bv} {t : Tr} (hr : Rep l v t) (hk : t.k ≤ 9) : isL (v.t : Int) = false := by
  cases hr with
  | null => exact (by decide : isL ((0 : Nat) : Int) = false)
  | truth => exact (by decide : isL ((26 : Nat) : Int) = false)
  | int => exact (by decide : isL ((1 : Nat) : Int) = false)
  | uint => exact (by decide : isL ((2 : Nat) : Int) = false)
  | key _ _ _ _ h => rw [h.1]; decide
  | str _ _ _ _ h => rw [h.1]; decide
  | blob _ _ _ _ h => rw [h.1]; decide
  | indInt _ _ _ _ h => rw [h.1]; decide
  | indUint _ _ _ _ h => rw [h.1]; decide
  | ints => exact absurd (id hk : (11 : Int) ≤ 9) (by decide)
  | uints => exact absurd (id hk : (12 : Int) ≤ 9) (by decide)
  | bools => exact absurd (id hk : (14 : Int) ≤ 9) (by decide)
  | keys => exact absurd (id hk : (13 : Int) ≤ 9) (by decide)
  | fixInts => exact absurd (id hk : (15 : Int) ≤ 9) (by decide)
  | fixUints => exact absurd (id hk : (16 : Int) ≤ 9) (by decide)
  | vec => exact absurd (id hk : (10 : Int) ≤ 9) (by decide)
  | map => exact absurd (id hk : (17 : Int) ≤ 9) (by decide)
structure DocL (L : List UInt8) (p q t v : Int) (T : Tr) : Prop where
  leaf : T.k ≤ 9 → lsE L p q t v = 60 ∧ lsLen L p q t v = 0
  list : 10 ≤ T.k → lsE L p q t v = 0 ∧ lsLen L p q t v = T.l.length ∧ ∀ (i : Nat) c, (sortT T).l[i]? = some c → atE L p q t v (i : Int) = 0 ∧ kindT (atT L p q t v (i : Int)) = c.k
theorem doc_lists {T : Tr} (hv : Val T) {b : List UInt8} {v : Bv} {w : Nat} (hr : Rep b v (sortT T)) (hw : isW (w : Int) = true) (ht : legalT (v.t : Int) = true) (hvw : isW (v.w : Int) = true) (hb : b.length ≤ 65000) (hf : fitsV v b.length 0 w = true) (x : List UInt8) (h8 : x.length % 8 = 0) :
    DocL (x ++ docB b v w) ((x.length + (alignB w b).length : Nat) : Int) (w : Int) (v.t : Int) (ownW w v : Int) T := by
  refine ⟨fun hk => ?_, fun hk => ?_⟩
  · have hm := doc_may (x := x) (b := b) hw ht hvw
    have hl := rep_leaf hr (by rw [sort_k]; exact hk)
    have hE : lsE (x ++ docB b v w) ((x.length + (alignB w b).length : Nat) : Int) (w : Int) (v.t : Int) (ownW w v : Int) = 60 := by
      unfold lsE
      rw [hm, if_neg (by simp), if_pos hl]
    refine ⟨hE, ?_⟩
    unfold lsLen
    rw [hE, if_neg (by decide)]
  · obtain ⟨m, em⟩ := docB_app b v w
    obtain ⟨k1, k2, k3⟩ := sort_kids hv
    have hlm : (b ++ m).length < 2 ^ 32 := by
      rw [← em]
      have h1 := bdoc_len [] b v w
      have h2 := alignB_le8 b (isW_nat.2 (isW_nat.1 hw))
      have h3 : w ≤ 8 := by rcases isW_nat.1 hw with h | h | h | h <;> omega
      simp only [List.nil_append, List.length_nil] at h1
      omega
    obtain ⟨vs, hL, hlen, hi, hel⟩ := rep_list (hr.app m) (sort_fix hv) k1 k2 (by rw [sort_k]; exact hk) hlm x h8
    have hld := doc_leads (x := x) hw ht hvw (by omega) hf hi
    have ho : ownW w v = v.w := by unfold ownW; rw [show inl v.t = false from hi]; rfl
    rw [ho]
    rw [← em] at hL
    obtain ⟨e1, e2, _⟩ := lst_len hL hld
    refine ⟨e1, by rw [e2, hlen, k3], fun i c hc => ?_⟩
    have hil : i < vs.length := by rw [hlen]; exact (List.getElem?_eq_some_iff.1 hc).1
    have hk := hel i vs[i] c (List.getElem?_eq_getElem hil) hc
    obtain ⟨a1, _, _, a4, _⟩ := lst_at hL hld (List.getElem?_eq_getElem hil) (fun h => ⟨(hk.1 h).1, (hk.1 h).2.1⟩)
    refine ⟨a1, ?_⟩
    rw [a4]
    cases htg : tagT (v.t : Int) with
    | true => rw [if_pos rfl]; exact (hk.1 htg).2.2
    | false => rw [if_neg (by decide)]; exact hk.2 htg
end Go.Proofs.YtfoifdoaleaekaaGreat
