/-
  Package build: where bytes lie. No program in sight.
  Package build: when a value stands for a tree in the bytes. No program in sight.
  Package build: the calls for a valid tree leave one value, and it stands for the tree. No program in sight.
-/
import Derived.Test.YtjhigmgkmmjlfaaGreatQ04
namespace Go.Proofs.YtjhigmgkmmjlfaaGreat
open Go.Acc
/-- The bytes m lie at a. -/
def At (l : List UInt8) (a : Nat) (m : List UInt8) : Prop := ∃ p q, l = p ++ m ++ q ∧ p.length = a
theorem At.app {l : List UInt8} {a : Nat} {m : List UInt8} (h : At l a m) (x : List UInt8) : At (l ++ x) a m := by
  obtain ⟨p, q, rfl, rfl⟩ := h
  exact ⟨p, q ++ x, by simp, rfl⟩
theorem At.ahead {l : List UInt8} {a : Nat} {m : List UInt8} (h : At l a m) (x : List UInt8) : At (x ++ l) (x.length + a) m := by
  obtain ⟨p, q, rfl, rfl⟩ := h
  exact ⟨x ++ p, q, by simp, by simp⟩
theorem At.last (l m : List UInt8) : At (l ++ m) l.length m := ⟨l, [], by simp, rfl⟩
theorem At.left {l : List UInt8} {a : Nat} {m m' : List UInt8} (h : At l a (m ++ m')) : At l a m := by
  obtain ⟨p, q, rfl, rfl⟩ := h
  exact ⟨p, m' ++ q, by simp, rfl⟩
theorem At.right {l : List UInt8} {a : Nat} {m m' : List UInt8} (h : At l a (m ++ m')) : At l (a + m.length) m' := by
  obtain ⟨p, q, rfl, rfl⟩ := h
  exact ⟨p ++ m, q, by simp, by simp⟩
theorem At.le {l : List UInt8} {a : Nat} {m : List UInt8} (h : At l a m) : a + m.length ≤ l.length := by
  obtain ⟨p, q, rfl, rfl⟩ := h
  simp
theorem At.take {l : List UInt8} {a : Nat} {m : List UInt8} (h : At l a m) : (l.drop a).take m.length = m := by
  obtain ⟨p, q, rfl, rfl⟩ := h
  simp
theorem At.get {l : List UInt8} {a i : Nat} {m : List UInt8} (h : At l a m) (hi : i < m.length) : l[a + i]? = m[i]? := by
  obtain ⟨p, q, rfl, rfl⟩ := h
  rw [List.append_assoc, List.getElem?_append_right (by omega), List.getElem?_append_left (by omega)]
  congr 1
  omega
theorem At.load {l : List UInt8} {a w u : Nat} (h : At l a (leBytes w u)) (hw : isW w = true) : loadU l a w = leVal (leBytes w u) := by
  have h1 := h.le
  have h2 := h.take
  rw [leBytes_length] at h1 h2
  have h3 : (0 : Int) ≤ a ∧ (a : Int) + w ≤ l.length := by omega
  simp only [loadU, hw, h3, Int.toNat_natCast, h2, and_self, if_true]
theorem elemsB_app (w : Nat) : ∀ (vs : List Bv) (l : List UInt8), ∃ m, elemsB w l vs = l ++ m ∧ m.length = w * vs.length
  | [], l => ⟨[], by simp [elemsB]⟩
  | v :: r, l => by
    obtain ⟨m, e, h⟩ := elemsB_app w r (l ++ leBytes w (elemN w l.length v))
    refine ⟨leBytes w (elemN w l.length v) ++ m, by rw [elemsB, e, List.append_assoc], ?_⟩
    rw [List.length_append, leBytes_length, h, List.length_cons, Nat.mul_add, Nat.mul_one, Nat.add_comm]
theorem elemsB_at (w : Nat) : ∀ (vs : List Bv) (l : List UInt8) (i : Nat) (v : Bv), vs[i]? = some v → At (elemsB w l vs) (l.length + i * w) (leBytes w (elemN w (l.length + i * w) v))
  | [], _, _, _, h => by simp at h
  | x :: r, l, 0, v, h => by
    have e : x = v := by simpa using h
    subst e
    obtain ⟨m, e, _⟩ := elemsB_app w r (l ++ leBytes w (elemN w l.length x))
    rw [elemsB, e, Nat.zero_mul, Nat.add_zero]
    exact (At.last _ _).app m
  | x :: r, l, i + 1, v, h => by
    have h2 := elemsB_at w r (l ++ leBytes w (elemN w l.length x)) i v (by simpa using h)
    have e : (l ++ leBytes w (elemN w l.length x)).length + i * w = l.length + (i + 1) * w := by
      rw [List.length_append, leBytes_length, Nat.succ_mul]
      omega
    rw [e] at h2
    exact h2
/-- What bVec appends. -/
theorem vecB_app (t : Nat) (len tags : Bool) (l : List Bv) (b : List UInt8) : ∃ m, (bVec t len tags l b).1 = b ++ m := by
  obtain ⟨w, hw⟩ : ∃ w, fitAll b.length (if len = true then 1 else 0) none l = w := ⟨_, rfl⟩
  simp only [bVec, hw]
  obtain ⟨m, e, _⟩ := elemsB_app w l (alignB w b ++ (if len = true then leBytes w l.length else []))
  exact ⟨_, by rw [e, alignB, List.append_assoc, List.append_assoc, List.append_assoc]⟩
theorem mapB_app (k : Bv) (l : List Bv) (b : List UInt8) : ∃ m, (mapB k l b).1 = b ++ m := by
  obtain ⟨w, hw⟩ : ∃ w, fitAll b.length 3 (some k) l = w := ⟨_, rfl⟩
  simp only [mapB, hw]
  obtain ⟨m, e, _⟩ := elemsB_app w l (alignB w b ++ leBytes w ((alignB w b).length - k.n) ++ leBytes w k.w ++ leBytes w l.length)
  exact ⟨List.replicate (padN w b.length) 0 ++ (leBytes w ((alignB w b).length - k.n) ++ (leBytes w k.w ++ (leBytes w l.length ++ (m ++ l.map (bTag w))))), by rw [e]; simp only [alignB, List.append_assoc]⟩
end Go.Proofs.YtjhigmgkmmjlfaaGreat

namespace Go.Proofs.YtjhigmgkmmjlfaaGreat
open Go.Acc
/-- A value that some width takes where n bytes stand. -/
def Fit (n : Nat) (v : Bv) : Prop := (inl v.t = true → v.w ≤ 8) ∧ (inl v.t = false → v.n ≤ n)
theorem Fit.mono {n n' : Nat} {v : Bv} (h : Fit n v) (hn : n ≤ n') : Fit n' v := ⟨h.1, fun e => Nat.le_trans (h.2 e) hn⟩
theorem bWidth_le (u : Nat) : bWidth u ≤ 8 := by unfold bWidth; (repeat' split) <;> omega
theorem bWidthI_le (n : Int) : bWidthI n ≤ 8 := by unfold bWidthI; (repeat' split) <;> omega
theorem leastW_le (f : Nat → Bool) : leastW f ≤ 8 := by unfold leastW; (repeat' split) <;> omega
/-- The bytes l hold the vector v of the values vs, as bVec writes it. -/
def VecAt (l : List UInt8) (t : Nat) (len tags : Bool) (vs : List Bv) (v : Bv) : Prop := ∃ b m, l = (bVec t len tags vs b).1 ++ m ∧ v = (bVec t len tags vs b).2 ∧ ∀ x ∈ vs, Fit b.length x
def MapAt (l : List UInt8) (k : Bv) (vs : List Bv) (v : Bv) : Prop := ∃ b m, l = (mapB k vs b).1 ++ m ∧ v = (mapB k vs b).2 ∧ Fit b.length k ∧ ∀ x ∈ vs, Fit b.length x
theorem VecAt.app {l : List UInt8} {t : Nat} {len tags : Bool} {vs : List Bv} {v : Bv} (h : VecAt l t len tags vs v) (x : List UInt8) : VecAt (l ++ x) t len tags vs v := by
  obtain ⟨b, m, rfl, rfl, hf⟩ := h
  exact ⟨b, m ++ x, by rw [List.append_assoc], rfl, hf⟩
theorem MapAt.app {l : List UInt8} {k : Bv} {vs : List Bv} {v : Bv} (h : MapAt l k vs v) (x : List UInt8) : MapAt (l ++ x) k vs v := by
  obtain ⟨b, m, rfl, rfl, hf⟩ := h
  exact ⟨b, m ++ x, by rw [List.append_assoc], rfl, hf⟩
/-- The value v is the key s. -/
def KeyAt (l : List UInt8) (s : List UInt8) (v : Bv) : Prop := v.t = 4 ∧ v.w = 1 ∧ At l v.n (s ++ [0])
def TextAt (l : List UInt8) (t : Nat) (s z : List UInt8) (v : Bv) : Prop := v.t = t ∧ v.w = bWidth s.length ∧ ∃ c, v.n = c + v.w ∧ At l c (leBytes v.w s.length ++ s ++ z)
def NumAt (l : List UInt8) (t w n : Nat) (v : Bv) : Prop := v.t = t ∧ v.w = w ∧ At l v.n (leBytes w (n % 2 ^ (8 * w)))
/-- The values of the keys ks. -/
def KeysAt (l : List UInt8) (ks : List (List UInt8)) (vs : List Bv) : Prop := vs.length = ks.length ∧ ∀ (i : Nat) s v, ks[i]? = some s → vs[i]? = some v → KeyAt l s v
theorem KeyAt.app {l s : List UInt8} {v : Bv} (h : KeyAt l s v) (x : List UInt8) : KeyAt (l ++ x) s v := ⟨h.1, h.2.1, h.2.2.app x⟩
theorem TextAt.app {l : List UInt8} {t : Nat} {s z : List UInt8} {v : Bv} (h : TextAt l t s z v) (x : List UInt8) : TextAt (l ++ x) t s z v := by
  obtain ⟨h1, h2, c, h3, h4⟩ := h
  exact ⟨h1, h2, c, h3, h4.app x⟩
theorem NumAt.app {l : List UInt8} {t w n : Nat} {v : Bv} (h : NumAt l t w n v) (x : List UInt8) : NumAt (l ++ x) t w n v := ⟨h.1, h.2.1, h.2.2.app x⟩
theorem KeysAt.app {l : List UInt8} {ks : List (List UInt8)} {vs : List Bv} (h : KeysAt l ks vs) (x : List UInt8) : KeysAt (l ++ x) ks vs := ⟨h.1, fun i s v h1 h2 => (h.2 i s v h1 h2).app x⟩
/-- The value v stands for the tree in the bytes l. -/
inductive Rep (l : List UInt8) : Bv → Tr → Prop
  | null (n u s ks c) : Rep l ⟨0, 1, 0⟩ (.mk 1 n u s ks c)
  | truth (n u s ks c) : Rep l (truthV n) (.mk 2 n u s ks c)
  | int (n u s ks c) : Rep l (numV n) (.mk 3 n u s ks c)
  | uint (n u s ks c) : Rep l (unsV u) (.mk 4 n u s ks c)
  | key {v : Bv} {s : List UInt8} (n u ks c) (h : KeyAt l s v) : Rep l v (.mk 5 n u s ks c)
  | str {v : Bv} {s : List UInt8} (n u ks c) (h : TextAt l 5 s [0] v) : Rep l v (.mk 6 n u s ks c)
  | blob {v : Bv} {s : List UInt8} (n u ks c) (h : TextAt l 25 s [] v) : Rep l v (.mk 7 n u s ks c)
  | indInt {v : Bv} {n : Int} (u s ks c) (h : NumAt l 6 (bWidthI n) (bits n) v) : Rep l v (.mk 8 n u s ks c)
  | indUint {v : Bv} {u : Nat} (n s ks c) (h : NumAt l 7 (bWidth u) u v) : Rep l v (.mk 9 n u s ks c)
  | ints {v : Bv} {c : List Tr} (n u s ks) (h : VecAt l 11 true false (c.map fun t => numV t.n) v) : Rep l v (.mk 11 n u s ks c)
  | uints {v : Bv} {c : List Tr} (n u s ks) (h : VecAt l 12 true false (c.map fun t => unsV t.u) v) : Rep l v (.mk 12 n u s ks c)
  | bools {v : Bv} {c : List Tr} (n u s ks) (h : VecAt l 36 true false (c.map fun t => truthV t.n) v) : Rep l v (.mk 14 n u s ks c)
  | keys {v : Bv} {c : List Tr} {vs : List Bv} (n u s ks) (hk : KeysAt l (c.map Tr.s) vs) (h : VecAt l 14 true false vs v) : Rep l v (.mk 13 n u s ks c)
  | fixInts {v : Bv} {c : List Tr} (n u s ks) (h : VecAt l (10 + 3 * c.length) false false (c.map fun t => numV t.n) v) : Rep l v (.mk 15 n u s ks c)
  | fixUints {v : Bv} {c : List Tr} (n u s ks) (h : VecAt l (11 + 3 * c.length) false false (c.map fun t => unsV t.u) v) : Rep l v (.mk 16 n u s ks c)
  | vec {v : Bv} {c : List Tr} {vs : List Bv} (n u s ks) (hl : vs.length = c.length) (hr : ∀ (i : Nat) x t, vs[i]? = some x → c[i]? = some t → Rep l x t) (h : VecAt l 10 true true vs v) : Rep l v (.mk 10 n u s ks c)
  | map {v kv : Bv} {c : List Tr} {ks : List (List UInt8)} {kvs vs : List Bv} (n u s) (hk : KeysAt l ks kvs) (hv : VecAt l 14 true false kvs kv) (hl : vs.length = c.length) (hr : ∀ (i : Nat) x t, vs[i]? = some x → c[i]? = some t → Rep l x t) (h : MapAt l kv vs v) : Rep l v (.mk 17 n u s ks c)
theorem Rep.app {l : List UInt8} {v : Bv} {t : Tr} (h : Rep l v t) (x : List UInt8) : Rep (l ++ x) v t := by
  induction h with
  | null => exact .null _ _ _ _ _
  | truth => exact .truth _ _ _ _ _
  | int => exact .int _ _ _ _ _
  | uint => exact .uint _ _ _ _ _
  | key _ _ _ _ h => exact .key _ _ _ _ (h.app x)
  | str _ _ _ _ h => exact .str _ _ _ _ (h.app x)
  | blob _ _ _ _ h => exact .blob _ _ _ _ (h.app x)
  | indInt _ _ _ _ h => exact .indInt _ _ _ _ (h.app x)
  | indUint _ _ _ _ h => exact .indUint _ _ _ _ (h.app x)
  | ints _ _ _ _ h => exact .ints _ _ _ _ (h.app x)
  | uints _ _ _ _ h => exact .uints _ _ _ _ (h.app x)
  | bools _ _ _ _ h => exact .bools _ _ _ _ (h.app x)
  | keys _ _ _ _ hk h => exact .keys _ _ _ _ (hk.app x) (h.app x)
  | fixInts _ _ _ _ h => exact .fixInts _ _ _ _ (h.app x)
  | fixUints _ _ _ _ h => exact .fixUints _ _ _ _ (h.app x)
  | vec _ _ _ _ hl _ h ih => exact .vec _ _ _ _ hl ih (h.app x)
  | map _ _ _ hk hv hl _ h ih => exact .map _ _ _ (hk.app x) (hv.app x) hl ih (h.app x)
theorem vecB_fit (t : Nat) (len tags : Bool) (vs : List Bv) (b m : List UInt8) : Fit ((bVec t len tags vs b).1 ++ m).length (bVec t len tags vs b).2 := by
  obtain ⟨w, hw⟩ : ∃ w, fitAll b.length (if len = true then 1 else 0) none vs = w := ⟨_, rfl⟩
  have h8 : w ≤ 8 := by rw [← hw]; exact leastW_le _
  obtain ⟨c, hc⟩ : ∃ c, alignB w b ++ (if len = true then leBytes w vs.length else []) = c := ⟨_, rfl⟩
  simp only [bVec, hw, hc]
  obtain ⟨x, e, _⟩ := elemsB_app w vs c
  refine ⟨fun _ => h8, fun _ => ?_⟩
  rw [e]
  simp only [List.length_append]
  omega
theorem mapB_fit (k : Bv) (vs : List Bv) (b m : List UInt8) : Fit ((mapB k vs b).1 ++ m).length (mapB k vs b).2 := by
  obtain ⟨w, hw⟩ : ∃ w, fitAll b.length 3 (some k) vs = w := ⟨_, rfl⟩
  have h8 : w ≤ 8 := by rw [← hw]; exact leastW_le _
  obtain ⟨c, hc⟩ : ∃ c, alignB w b ++ leBytes w ((alignB w b).length - k.n) ++ leBytes w k.w ++ leBytes w vs.length = c := ⟨_, rfl⟩
  simp only [mapB, hw, hc]
  obtain ⟨x, e, _⟩ := elemsB_app w vs c
  refine ⟨fun _ => h8, fun _ => ?_⟩
  rw [e]
  simp only [List.length_append]
  omega
theorem VecAt.fit {l : List UInt8} {t : Nat} {len tags : Bool} {vs : List Bv} {v : Bv} (h : VecAt l t len tags vs v) : Fit l.length v := by
  obtain ⟨b, m, rfl, rfl, _⟩ := h
  exact vecB_fit _ _ _ _ _ _
theorem MapAt.fit {l : List UInt8} {k : Bv} {vs : List Bv} {v : Bv} (h : MapAt l k vs v) : Fit l.length v := by
  obtain ⟨b, m, rfl, rfl, _⟩ := h
  exact mapB_fit _ _ _ _
theorem KeyAt.fit {l s : List UInt8} {v : Bv} (h : KeyAt l s v) : Fit l.length v := by
  obtain ⟨h1, h2, h3⟩ := h
  have := h3.le
  exact ⟨fun _ => by omega, fun _ => by omega⟩
theorem TextAt.fit {l : List UInt8} {t : Nat} {s z : List UInt8} {v : Bv} (h : TextAt l t s z v) : Fit l.length v := by
  obtain ⟨_, h2, c, h3, h4⟩ := h
  have := h4.le
  simp only [List.length_append, leBytes_length] at this
  exact ⟨fun _ => by rw [h2]; exact bWidth_le _, fun _ => by omega⟩
theorem NumAt.fit {l : List UInt8} {t w n : Nat} {v : Bv} (h : NumAt l t w n v) (hw : w ≤ 8) : Fit l.length v := by
  have := h.2.2.le
  exact ⟨fun _ => by rw [h.2.1]; exact hw, fun _ => by omega⟩
theorem numV_fit (n : Int) (m : Nat) : Fit m (numV n) := ⟨fun _ => bWidthI_le n, fun h => absurd h (show ¬ inl 1 = false by decide)⟩
theorem unsV_fit (u m : Nat) : Fit m (unsV u) := ⟨fun _ => bWidth_le u, fun h => absurd h (show ¬ inl 2 = false by decide)⟩
theorem truthV_fit (n : Int) (m : Nat) : Fit m (truthV n) := ⟨fun _ => by simp [truthV], fun h => absurd h (show ¬ inl 26 = false by decide)⟩
theorem Rep.fit {l : List UInt8} {v : Bv} {t : Tr} (h : Rep l v t) : Fit l.length v := by
  cases h with
  | null => exact ⟨fun _ => by simp, fun h => absurd h (by decide)⟩
  | truth => exact truthV_fit _ _
  | int => exact numV_fit _ _
  | uint => exact unsV_fit _ _
  | key _ _ _ _ h => exact h.fit
  | str _ _ _ _ h => exact h.fit
  | blob _ _ _ _ h => exact h.fit
  | indInt _ _ _ _ h => exact h.fit (bWidthI_le _)
  | indUint _ _ _ _ h => exact h.fit (bWidth_le _)
  | ints _ _ _ _ h => exact h.fit
  | uints _ _ _ _ h => exact h.fit
  | bools _ _ _ _ h => exact h.fit
  | keys _ _ _ _ _ h => exact h.fit
  | fixInts _ _ _ _ h => exact h.fit
  | fixUints _ _ _ _ h => exact h.fit
  | vec _ _ _ _ _ _ h => exact h.fit
  | map _ _ _ _ _ _ _ h => exact h.fit
theorem KeysAt.fit {l : List UInt8} {ks : List (List UInt8)} {vs : List Bv} (h : KeysAt l ks vs) : ∀ x ∈ vs, Fit l.length x := by
  intro x hx
  obtain ⟨i, hi, e⟩ := List.getElem_of_mem hx
  have hk : i < ks.length := by rw [← h.1]; exact hi
  exact (h.2 i ks[i] x (List.getElem?_eq_getElem hk) (by rw [List.getElem?_eq_getElem hi, e])).fit
theorem reps_fit {l : List UInt8} {c : List Tr} {vs : List Bv} (hl : vs.length = c.length) (h : ∀ (i : Nat) x t, vs[i]? = some x → c[i]? = some t → Rep l x t) : ∀ x ∈ vs, Fit l.length x := by
  intro x hx
  obtain ⟨i, hi, e⟩ := List.getElem_of_mem hx
  have hk : i < c.length := by rw [← hl]; exact hi
  exact (h i x c[i] (by rw [List.getElem?_eq_getElem hi, e]) (List.getElem?_eq_getElem hk)).fit
/-- The string by which a list of keys is known. -/
def listOf (ks : List (List UInt8)) : List UInt8 := ks.flatMap fun s => s ++ [0]
/-- What the pools tell is so. -/
structure Good (b : Bd) : Prop where
  keys : ∀ s a, getP b.keys s = some a → At b.b a (s ++ [0])
  texts : ∀ s a, getP b.texts s = some a → TextAt b.b 5 s [0] ⟨5, bWidth s.length, a⟩
  lists : ∀ ks : List (List UInt8), (∀ s ∈ ks, (0 : UInt8) ∉ s) → ∀ i, getP b.lists (listOf ks) = some i → ∃ kv kvs, b.vals[i]? = some kv ∧ KeysAt b.b ks kvs ∧ VecAt b.b 14 true false kvs kv
  vals : ∀ s i, getP b.lists s = some i → i < b.vals.length
theorem good_new : Good Bd.new := ⟨fun _ _ h => by simp [Bd.new, getP] at h, fun _ _ h => by simp [Bd.new, getP] at h, fun _ _ _ h => by simp [Bd.new, getP] at h, fun _ _ h => by simp [Bd.new, getP] at h⟩
/-- Bytes behind, and values on the stack, change nothing. -/
theorem Good.app {b b' : Bd} (h : Good b) (x : List UInt8) (hb : b'.b = b.b ++ x) (hk : b'.keys = b.keys) (ht : b'.texts = b.texts) (hl : b'.lists = b.lists) (hv : b'.vals = b.vals) : Good b' := by
  refine ⟨fun s a e => ?_, fun s a e => ?_, fun ks h0 i e => ?_, fun s i e => ?_⟩
  · rw [hb]; rw [hk] at e; exact (h.keys s a e).app x
  · rw [hb]; rw [ht] at e; exact (h.texts s a e).app x
  · rw [hl] at e
    obtain ⟨kv, kvs, h1, h2, h3⟩ := h.lists ks h0 i e
    rw [hb, hv]
    exact ⟨kv, kvs, h1, h2.app x, h3.app x⟩
  · rw [hl] at e; rw [hv]; exact h.vals s i e
theorem getP_put {l : List (List UInt8 × Nat)} {k s : List UInt8} {a c : Nat} (h : getP (putP l k a) s = some c) : getP l s = some c ∨ (s = k ∧ c = a) := by
  unfold putP at h
  split at h
  · exact Or.inl h
  · rw [getP, List.find?_append] at h
    cases hg : l.find? (fun x => x.1 == s) with
    | some y =>
      rw [hg] at h
      left
      rw [getP, hg]
      simpa using h
    | none =>
      rw [hg] at h
      right
      by_cases hs : k = s
      · subst hs
        simp at h
        exact ⟨rfl, h.symm⟩
      · simp [hs] at h
end Go.Proofs.YtjhigmgkmmjlfaaGreat

namespace Go.Proofs.YtjhigmgkmmjlfaaGreat
open Go.Acc
/-- Bytes are appended only, and what the pools tell stays so. -/
def Step (b b' : Bd) : Prop := (∃ m, b'.b = b.b ++ m) ∧ Good b'
theorem Step.trans {a b c : Bd} (h : Step a b) (h' : Step b c) : Step a c := by
  obtain ⟨⟨m, e⟩, _⟩ := h
  obtain ⟨⟨m', e'⟩, g⟩ := h'
  exact ⟨⟨m ++ m', by rw [e', e, List.append_assoc]⟩, g⟩
theorem Step.rep {b b' : Bd} (h : Step b b') {v : Bv} {t : Tr} (r : Rep b.b v t) : Rep b'.b v t := by
  obtain ⟨⟨m, e⟩, _⟩ := h
  rw [e]
  exact r.app m
theorem put_law (f : Nat) (s : List UInt8) (b : Bd) (h : Good b) : Step b (b.put f s).1 ∧ KeyAt (b.put f s).1.b s (b.put f s).2 ∧ (b.put f s).1.s = b.s := by
  unfold Bd.put
  split
  · next a ha =>
    split at ha
    · exact ⟨⟨⟨[], by simp⟩, h⟩, ⟨rfl, rfl, h.keys s a ha⟩, rfl⟩
    · cases ha
  · refine ⟨⟨⟨s ++ [0], by simp⟩, ⟨fun k a e => ?_, fun k a e => ?_, fun ks h0 i e => ?_, fun k i e => h.vals k i e⟩⟩, ⟨rfl, rfl, ?_⟩, rfl⟩
    · rcases getP_put e with e | ⟨rfl, rfl⟩
      · have := (h.keys k a e).app (s ++ [0])
        rwa [← List.append_assoc] at this
      · have := At.last b.b (k ++ [0])
        rwa [← List.append_assoc] at this
    · have := (h.texts k a e).app (s ++ [0])
      rwa [← List.append_assoc] at this
    · obtain ⟨kv, kvs, h1, h2, h3⟩ := h.lists ks h0 i e
      have h2 := h2.app (s ++ [0])
      have h3 := h3.app (s ++ [0])
      rw [← List.append_assoc] at h2 h3
      exact ⟨kv, kvs, h1, h2, h3⟩
    · have := At.last b.b (s ++ [0])
      rwa [← List.append_assoc] at this
theorem good_push {b : Bd} (h : Good b) (v : Bv) : Good (b.push v) := h.app [] (by simp [Bd.push]) rfl rfl rfl rfl
theorem key_law (f : Nat) (s : List UInt8) (b : Bd) (h : Good b) : ∃ v, (b.key f s).s = b.s ++ [v] ∧ Step b (b.key f s) ∧ KeyAt (b.key f s).b s v := by
  obtain ⟨⟨h1, h2⟩, h3, h4⟩ := put_law f s b h
  exact ⟨(b.put f s).2, by simp [Bd.key, Bd.push, h4], ⟨h1, good_push h2 _⟩, h3⟩
theorem puts_law (f : Nat) : ∀ (ks : List (List UInt8)) (b : Bd), Good b → Step b (b.puts f ks).1 ∧ KeysAt (b.puts f ks).1.b ks (b.puts f ks).2 ∧ (b.puts f ks).1.s = b.s
  | [], b, h => ⟨⟨⟨[], by simp [Bd.puts]⟩, h⟩, ⟨rfl, fun i s v h => by simp at h⟩, rfl⟩
  | s :: r, b, h => by
    obtain ⟨s1, k1, e1⟩ := put_law f s b h
    obtain ⟨s2, k2, e2⟩ := puts_law f r (b.put f s).1 s1.2
    refine ⟨s1.trans s2, ⟨by simp [Bd.puts, k2.1], fun i x v hx hv => ?_⟩, e2.trans e1⟩
    cases i with
    | zero =>
      simp only [Bd.puts, List.getElem?_cons_zero, Option.some.injEq] at hx hv
      subst hx hv
      obtain ⟨⟨m, e⟩, _⟩ := s2
      simp only [Bd.puts, e]
      exact k1.app m
    | succ i =>
      simp only [Bd.puts, List.getElem?_cons_succ] at hx hv
      exact k2.2 i x v hx hv
theorem vec_law (t : Nat) (len tags : Bool) (l : List Bv) (b : Bd) (h : Good b) (hf : ∀ x ∈ l, Fit b.b.length x) : ∃ v, (b.vec t len tags l).s = b.s ++ [v] ∧ Step b (b.vec t len tags l) ∧ VecAt (b.vec t len tags l).b t len tags l v := by
  obtain ⟨m, e⟩ := vecB_app t len tags l b.b
  exact ⟨(bVec t len tags l b.b).2, rfl, ⟨⟨m, e⟩, h.app m e rfl rfl rfl rfl⟩, b.b, [], by simp [Bd.vec], rfl, hf⟩
theorem text_put (t : Nat) (s z : List UInt8) (l : List UInt8) : TextAt (alignB (bWidth s.length) l ++ leBytes (bWidth s.length) s.length ++ s ++ z) t s z ⟨t, bWidth s.length, (alignB (bWidth s.length) l ++ leBytes (bWidth s.length) s.length).length⟩ := by
  refine ⟨rfl, rfl, (alignB (bWidth s.length) l).length, by rw [List.length_append, leBytes_length], ?_⟩
  have := At.last (alignB (bWidth s.length) l) (leBytes (bWidth s.length) s.length ++ s ++ z)
  simpa only [List.append_assoc] using this
theorem blob_law (s : List UInt8) (b : Bd) (h : Good b) : ∃ v, (b.blob s).s = b.s ++ [v] ∧ Step b (b.blob s) ∧ TextAt (b.blob s).b 25 s [] v := by
  have e : (b.blob s).b = b.b ++ (List.replicate (padN (bWidth s.length) b.b.length) 0 ++ (leBytes (bWidth s.length) s.length ++ s)) := by simp only [Bd.blob, alignB, List.append_assoc]
  refine ⟨_, rfl, ⟨⟨_, e⟩, h.app _ e rfl rfl rfl rfl⟩, ?_⟩
  have := text_put 25 s [] b.b
  rw [List.append_nil] at this
  exact this
theorem str_law (f : Nat) (s : List UInt8) (b : Bd) (h : Good b) : ∃ v, (b.str f s).s = b.s ++ [v] ∧ Step b (b.str f s) ∧ TextAt (b.str f s).b 5 s [0] v := by
  unfold Bd.str
  simp only []
  split
  · next a ha =>
    split at ha
    · exact ⟨_, rfl, ⟨⟨[], by simp [Bd.push]⟩, good_push h _⟩, h.texts s a ha⟩
    · cases ha
  · have e : alignB (bWidth s.length) b.b ++ leBytes (bWidth s.length) s.length ++ s ++ [0] = b.b ++ (List.replicate (padN (bWidth s.length) b.b.length) 0 ++ (leBytes (bWidth s.length) s.length ++ (s ++ [0]))) := by simp only [alignB, List.append_assoc]
    refine ⟨_, rfl, ⟨⟨_, e⟩, ⟨fun k a i => ?_, fun k a i => ?_, fun ks h0 i j => ?_, fun k i j => h.vals k i j⟩⟩, text_put 5 s [0] b.b⟩
    · exact e ▸ (h.keys k a i).app _
    · rcases getP_put i with i | ⟨rfl, rfl⟩
      · exact e ▸ (h.texts k a i).app _
      · exact text_put 5 k [0] b.b
    · obtain ⟨kv, kvs, h1, h2, h3⟩ := h.lists ks h0 i j
      exact ⟨kv, kvs, h1, e ▸ h2.app _, e ▸ h3.app _⟩
theorem apart_law (t w n : Nat) (b : Bd) (h : Good b) : ∃ v, (b.apart t w n).s = b.s ++ [v] ∧ Step b (b.apart t w n) ∧ NumAt (b.apart t w n).b t w n v := by
  have e : (b.apart t w n).b = b.b ++ (List.replicate (padN w b.b.length) 0 ++ leBytes w (n % 2 ^ (8 * w))) := by simp only [Bd.apart, alignB, List.append_assoc]
  exact ⟨_, rfl, ⟨⟨_, e⟩, h.app _ e rfl rfl rfl rfl⟩, rfl, rfl, At.last _ _⟩
end Go.Proofs.YtjhigmgkmmjlfaaGreat
