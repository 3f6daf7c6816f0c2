/-
  Package build: when a value stands for a tree in the bytes. No program in sight.
  Package build: the calls for a valid tree leave one value, and it stands for the tree. No program in sight.
  Package build: the calls for a valid tree leave one value, and it stands for the tree. No program in sight.
  Package build: the calls for a valid tree leave one value, and it stands for the tree: maps, and the whole. No program in sight.
  References, in plain terms: within the bytes, well-formed, target, root, sameness.
-/
import Derived.Test.YtfoifdoaleaekaaGreatQf04
namespace Go.Proofs.YtfoifdoaleaekaaGreat
open Go.Acc
def Fit (n : Nat) (v : Bv) : Prop := (inl v.t = true → v.w ≤ 8) ∧ (inl v.t = false → v.n ≤ n)
theorem Fit.mono {n n' : Nat} {v : Bv} (h : Fit n v) (hn : n ≤ n') : Fit n' v := ⟨h.1, fun e => Nat.le_trans (h.2 e) hn⟩
theorem bWidth_le (u : Nat) : bWidth u ≤ 8 := by unfold bWidth; (repeat' split) <;> omega
theorem bWidthI_le (n : Int) : bWidthI n ≤ 8 := by unfold bWidthI; (repeat' split) <;> omega
theorem leastW_le (f : Nat → Bool) : leastW f ≤ 8 := by unfold leastW; (repeat' split) <;> omega
def VecAt (l : List UInt8) (t : Nat) (len tags : Bool) (vs : List Bv) (v : Bv) : Prop := ∃ b m, l = (bVec t len tags vs b).1 ++ m ∧ v = (bVec t len tags vs b).2 ∧ ∀ x ∈ vs, Fit b.length x
def MapAt (l : List UInt8) (k : Bv) (vs : List Bv) (v : Bv) : Prop := ∃ b m, l = (mapB k vs b).1 ++ m ∧ v = (mapB k vs b).2 ∧ Fit b.length k ∧ ∀ x ∈ vs, Fit b.length x
theorem VecAt.app {l : List UInt8} {t : Nat} {len tags : Bool} {vs : List Bv} {v : Bv} (h : VecAt l t len tags vs v) (x : List UInt8) : VecAt (l ++ x) t len tags vs v := by
  obtain ⟨b, m, rfl, rfl, hf⟩ := h
  exact ⟨b, m ++ x, by rw [List.append_assoc], rfl, hf⟩
theorem MapAt.app {l : List UInt8} {k : Bv} {vs : List Bv} {v : Bv} (h : MapAt l k vs v) (x : List UInt8) : MapAt (l ++ x) k vs v := by
  obtain ⟨b, m, rfl, rfl, hf⟩ := h
  exact ⟨b, m ++ x, by rw [List.append_assoc], rfl, hf⟩
def KeyAt (l : List UInt8) (s : List UInt8) (v : Bv) : Prop := v.t = 4 ∧ v.w = 1 ∧ At l v.n (s ++ [0])
def TextAt (l : List UInt8) (t : Nat) (s z : List UInt8) (v : Bv) : Prop := v.t = t ∧ v.w = bWidth s.length ∧ ∃ c, v.n = c + v.w ∧ At l c (leBytes v.w s.length ++ s ++ z)
def NumAt (l : List UInt8) (t w n : Nat) (v : Bv) : Prop := v.t = t ∧ v.w = w ∧ At l v.n (leBytes w (n % 2 ^ (8 * w)))
def KeysAt (l : List UInt8) (ks : List (List UInt8)) (vs : List Bv) : Prop := vs.length = ks.length ∧ ∀ (i : Nat) s v, ks[i]? = some s → vs[i]? = some v → KeyAt l s v
theorem KeyAt.app {l s : List UInt8} {v : Bv} (h : KeyAt l s v) (x : List UInt8) : KeyAt (l ++ x) s v := ⟨h.1, h.2.1, h.2.2.app x⟩
theorem TextAt.app {l : List UInt8} {t : Nat} {s z : List UInt8} {v : Bv} (h : TextAt l t s z v) (x : List UInt8) : TextAt (l ++ x) t s z v := by
  obtain ⟨h1, h2, c, h3, h4⟩ := h
  exact ⟨h1, h2, c, h3, h4.app x⟩
theorem NumAt.app {l : List UInt8} {t w n : Nat} {v : Bv} (h : NumAt l t w n v) (x : List UInt8) : NumAt (l ++ x) t w n v := ⟨h.1, h.2.1, h.2.2.app x⟩
theorem KeysAt.app {l : List UInt8} {ks : List (List UInt8)} {vs : List Bv} (h : KeysAt l ks vs) (x : List UInt8) : KeysAt (l ++ x) ks vs := ⟨h.1, fun i s v h1 h2 => (h.2 i s v h1 h2).app x⟩
inductive Rep (l : List UInt8) : Bv → Tr → Prop
  | null (n u s ks c) : Rep l ⟨0, 1, 0⟩ (.mk 1 n u s ks c)
  | truth (n u s ks c) : Rep l (truthV n) (.mk 2 n u s ks c)
  | int (n u s ks c) : Rep l (numV n) (.mk 3 n u s ks c)
  | uint (n u s ks c) : Rep l (unsV u) (.mk 4 n u s ks c)
  | key {v : Bv} {s : List UInt8} (n u ks c) (h : KeyAt l s v) : Rep l v (.mk 5 n u s ks c)
  | str {v : Bv} {s : List UInt8} (n u ks c) (h : TextAt l 5 s [0] v) : Rep l v (.mk 6 n u s ks c)
  | blob {v : Bv} {s : List UInt8} (n u ks c) (h : TextAt l 25 s [] v) : Rep l v (.mk 7 n u s ks c)
  | indInt {v : Bv} {n : Int} (u s ks c) (h : NumAt l 6 (bWidthI n) (bits n) v) : Rep l v (.mk 8 n u s ks c)
  | indUint {v : Bv} {u : Nat} (n s ks c) (h : NumAt l 7 (bWidth u) u v) : Rep l v (.mk 9 n u s ks c)
  | ints {v : Bv} {c : List Tr} (n u s ks) (h : VecAt l 11 true false (c.map fun t => numV t.n) v) : Rep l v (.mk 11 n u s ks c)
  | uints {v : Bv} {c : List Tr} (n u s ks) (h : VecAt l 12 true false (c.map fun t => unsV t.u) v) : Rep l v (.mk 12 n u s ks c)
  | bools {v : Bv} {c : List Tr} (n u s ks) (h : VecAt l 36 true false (c.map fun t => truthV t.n) v) : Rep l v (.mk 14 n u s ks c)
  | keys {v : Bv} {c : List Tr} {vs : List Bv} (n u s ks) (hk : KeysAt l (c.map Tr.s) vs) (h : VecAt l 14 true false vs v) : Rep l v (.mk 13 n u s ks c)
  | fixInts {v : Bv} {c : List Tr} (n u s ks) (h : VecAt l (10 + 3 * c.length) false false (c.map fun t => numV t.n) v) : Rep l v (.mk 15 n u s ks c)
  | fixUints {v : Bv} {c : List Tr} (n u s ks) (h : VecAt l (11 + 3 * c.length) false false (c.map fun t => unsV t.u) v) : Rep l v (.mk 16 n u s ks c)
  | vec {v : Bv} {c : List Tr} {vs : List Bv} (n u s ks) (hl : vs.length = c.length) (hr : ∀ (i : Nat) x t, vs[i]? = some x → c[i]? = some t → Rep l x t) (h : VecAt l 10 true true vs v) : Rep l v (.mk 10 n u s ks c)
  | map {v kv : Bv} {c : List Tr} {ks : List (List UInt8)} {kvs vs : List Bv} (n u s) (hk : KeysAt l ks kvs) (hv : VecAt l 14 true false kvs kv) (hl : vs.length = c.length) (hr : ∀ (i : Nat) x t, vs[i]? = some x → c[i]? = some t → Rep l x t) (h : MapAt l kv vs v) : Rep l v (.mk 17 n u s ks c)
theorem Rep.app {l : List UInt8} {v : Bv} {t : Tr} (h : Rep l v t) (x : List UInt8) : Rep (l ++ x) v t := by
  induction h with
  | null => exact .null _ _ _ _ _
  | truth => exact .truth _ _ _ _ _
  | int => exact .int _ _ _ _ _
  | uint => exact .uint _ _ _ _ _
  | key _ _ _ _ h => exact .key _ _ _ _ (h.app x)
  | str _ _ _ _ h => exact .str _ _ _ _ (h.app x)
  | blob _ _ _ _ h => exact .blob _ _ _ _ (h.app x)
  | indInt _ _ _ _ h => exact .indInt _ _ _ _ (h.app x)
  | indUint _ _ _ _ h => exact .indUint _ _ _ _ (h.app x)
  | ints _ _ _ _ h => exact .ints _ _ _ _ (h.app x)
  | uints _ _ _ _ h => exact .uints _ _ _ _ (h.app x)
  | bools _ _ _ _ h => exact .bools _ _ _ _ (h.app x)
  | keys _ _ _ _ hk h => exact .keys _ _ _ _ (hk.app x) (h.app x)
  | fixInts _ _ _ _ h => exact .fixInts _ _ _ _ (h.app x)
  | fixUints _ _ _ _ h => exact .fixUints _ _ _ _ (h.app x)
  | vec _ _ _ _ hl _ h ih => exact .vec _ _ _ _ hl ih (h.app x)
  | map _ _ _ hk hv hl _ h ih => exact .map _ _ _ (hk.app x) (hv.app x) hl ih (h.app x)
theorem vecB_fit (t : Nat) (len tags : Bool) (vs : List Bv) (b m : List UInt8) : Fit ((bVec t len tags vs b).1 ++ m).length (bVec t len tags vs b).2 := by
  obtain ⟨w, hw⟩ : ∃ w, fitAll b.length (if len = true then 1 else 0) none vs = w := ⟨_, rfl⟩
  have h8 : w ≤ 8 := by rw [← hw]; exact leastW_le _
  obtain ⟨c, hc⟩ : ∃ c, alignB w b ++ (if len = true then leBytes w vs.length else []) = c := ⟨_, rfl⟩
  simp only [bVec, hw, hc]
  obtain ⟨x, e, _⟩ := elemsB_app w vs c
  refine ⟨fun _ => h8, fun _ => ?_⟩
  rw [e]
  simp only [List.length_append]
  omega
theorem mapB_fit (k : Bv) (vs : List Bv) (b m : List UInt8) : Fit ((mapB k vs b).1 ++ m).length (mapB k vs b).2 := by
  obtain ⟨w, hw⟩ : ∃ w, fitAll b.length 3 (some k) vs = w := ⟨_, rfl⟩
  have h8 : w ≤ 8 := by rw [← hw]; exact leastW_le _
  obtain ⟨c, hc⟩ : ∃ c, alignB w b ++ leBytes w ((alignB w b).length - k.n) ++ leBytes w k.w ++ leBytes w vs.length = c := ⟨_, rfl⟩
  simp only [mapB, hw, hc]
  obtain ⟨x, e, _⟩ := elemsB_app w vs c
  refine ⟨fun _ => h8, fun _ => ?_⟩
  rw [e]
  simp only [List.length_append]
  omega
theorem VecAt.fit {l : List UInt8} {t : Nat} {len tags : Bool} {vs : List Bv} {v : Bv} (h : VecAt l t len tags vs v) : Fit l.length v := by
  obtain ⟨b, m, rfl, rfl, _⟩ := h
  exact vecB_fit _ _ _ _ _ _
theorem MapAt.fit {l : List UInt8} {k : Bv} {vs : List Bv} {v : Bv} (h : MapAt l k vs v) : Fit l.length v := by
  obtain ⟨b, m, rfl, rfl, _⟩ := h
  exact mapB_fit _ _ _ _
theorem KeyAt.fit {l s : List UInt8} {v : Bv} (h : KeyAt l s v) : Fit l.length v := by
  obtain ⟨h1, h2, h3⟩ := h
  have := h3.le
  exact ⟨fun _ => by omega, fun _ => by omega⟩
theorem TextAt.fit {l : List UInt8} {t : Nat} {s z : List UInt8} {v : Bv} (h : TextAt l t s z v) : Fit l.length v := by
  obtain ⟨_, h2, c, h3, h4⟩ := h
  have := h4.le
  simp only [List.length_append, leBytes_length] at this
  exact ⟨fun _ => by rw [h2]; exact bWidth_le _, fun _ => by omega⟩
theorem NumAt.fit {l : List UInt8} {t w n : Nat} {v : Bv} (h : NumAt l t w n v) (hw : w ≤ 8) : Fit l.length v := by
  have := h.2.2.le
  exact ⟨fun _ => by rw [h.2.1]; exact hw, fun _ => by omega⟩
theorem numV_fit (n : Int) (m : Nat) : Fit m (numV n) := ⟨fun _ => bWidthI_le n, fun h => absurd h (show ¬ inl 1 = false by decide)⟩
theorem unsV_fit (u m : Nat) : Fit m (unsV u) := ⟨fun _ => bWidth_le u, fun h => absurd h (show ¬ inl 2 = false by decide)⟩
theorem truthV_fit (n : Int) (m : Nat) : Fit m (truthV n) := ⟨fun _ => by simp [truthV], fun h => absurd h (show ¬ inl 26 = false by decide)⟩
theorem Rep.fit {l : List UInt8} {v : Bv} {t : Tr} (h : Rep l v t) : Fit l.length v := by
  cases h with
  | null => exact ⟨fun _ => by simp, fun h => absurd h (by decide)⟩
  | truth => exact truthV_fit _ _
  | int => exact numV_fit _ _
  | uint => exact unsV_fit _ _
  | key _ _ _ _ h => exact h.fit
  | str _ _ _ _ h => exact h.fit
  | blob _ _ _ _ h => exact h.fit
  | indInt _ _ _ _ h => exact h.fit (bWidthI_le _)
  | indUint _ _ _ _ h => exact h.fit (bWidth_le _)
  | ints _ _ _ _ h => exact h.fit
  | uints _ _ _ _ h => exact h.fit
  | bools _ _ _ _ h => exact h.fit
  | keys _ _ _ _ _ h => exact h.fit
  | fixInts _ _ _ _ h => exact h.fit
  | fixUints _ _ _ _ h => exact h.fit
  | vec _ _ _ _ _ _ h => exact h.fit
  | map _ _ _ _ _ _ _ h => exact h.fit
theorem KeysAt.fit {l : List UInt8} {ks : List (List UInt8)} {vs : List Bv} (h : KeysAt l ks vs) : ∀ x ∈ vs, Fit l.length x := by
  intro x hx
  obtain ⟨i, hi, e⟩ := List.getElem_of_mem hx
  have hk : i < ks.length := by rw [← h.1]; exact hi
  exact (h.2 i ks[i] x (List.getElem?_eq_getElem hk) (by rw [List.getElem?_eq_getElem hi, e])).fit
theorem reps_fit {l : List UInt8} {c : List Tr} {vs : List Bv} (hl : vs.length = c.length) (h : ∀ (i : Nat) x t, vs[i]? = some x → c[i]? = some t → Rep l x t) : ∀ x ∈ vs, Fit l.length x := by
  intro x hx
  obtain ⟨i, hi, e⟩ := List.getElem_of_mem hx
  have hk : i < c.length := by rw [← hl]; exact hi
  exact (h i x c[i] (by rw [List.getElem?_eq_getElem hi, e]) (List.getElem?_eq_getElem hk)).fit
def listOf (ks : List (List UInt8)) : List UInt8 := ks.flatMap fun s => s ++ [0]
structure Good (b : Bd) : Prop where
  keys : ∀ s a, getP b.keys s = some a → At b.b a (s ++ [0])
  texts : ∀ s a, getP b.texts s = some a → TextAt b.b 5 s [0] ⟨5, bWidth s.length, a⟩
  lists : ∀ ks : List (List UInt8), (∀ s ∈ ks, (0 : UInt8) ∉ s) → ∀ i, getP b.lists (listOf ks) = some i → ∃ kv kvs, b.vals[i]? = some kv ∧ KeysAt b.b ks kvs ∧ VecAt b.b 14 true false kvs kv
  vals : ∀ s i, getP b.lists s = some i → i < b.vals.length
theorem good_new : Good Bd.new := ⟨fun _ _ h => by simp [Bd.new, getP] at h, fun _ _ h => by simp [Bd.new, getP] at h, fun _ _ _ h => by simp [Bd.new, getP] at h, fun _ _ h => by simp [Bd.new, getP] at h⟩
theorem Good.app {b b' : Bd} (h : Good b) (x : List UInt8) (hb : b'.b = b.b ++ x) (hk : b'.keys = b.keys) (ht : b'.texts = b.texts) (hl : b'.lists = b.lists) (hv : b'.vals = b.vals) : Good b' := by
  refine ⟨fun s a e => ?_, fun s a e => ?_, fun ks h0 i e => ?_, fun s i e => ?_⟩
  · rw [hb]; rw [hk] at e; exact (h.keys s a e).app x
  · rw [hb]; rw [ht] at e; exact (h.texts s a e).app x
  · rw [hl] at e
    obtain ⟨kv, kvs, h1, h2, h3⟩ := h.lists ks h0 i e
    rw [hb, hv]
    exact ⟨kv, kvs, h1, h2.app x, h3.app x⟩
  · rw [hl] at e; rw [hv]; exact h.vals s i e
theorem getP_put {l : List (List UInt8 × Nat)} {k s : List UInt8} {a c : Nat} (h : getP (putP l k a) s = some c) : getP l s = some c ∨ (s = k ∧ c = a) := by
  unfold putP at h
  split at h
  · exact Or.inl h
  · rw [getP, List.find?_append] at h
    cases hg : l.find? (fun x => x.1 == s) with
    | some y =>
      rw [hg] at h
      left
      rw [getP, hg]
      simpa using h
    | none =>
      rw [hg] at h
      right
      by_cases hs : k = s
      · subst hs
        simp at h
        exact ⟨rfl, h.symm⟩
      · simp [hs] at h
end Go.Proofs.YtfoifdoaleaekaaGreat

namespace Go.Proofs.YtfoifdoaleaekaaGreat
open Go.Acc
def Step (b b' : Bd) : Prop := (∃ m, b'.b = b.b ++ m) ∧ Good b'
theorem Step.trans {a b c : Bd} (h : Step a b) (h' : Step b c) : Step a c := by
  obtain ⟨⟨m, e⟩, _⟩ := h
  obtain ⟨⟨m', e'⟩, g⟩ := h'
  exact ⟨⟨m ++ m', by rw [e', e, List.append_assoc]⟩, g⟩
theorem Step.rep {b b' : Bd} (h : Step b b') {v : Bv} {t : Tr} (r : Rep b.b v t) : Rep b'.b v t := by
  obtain ⟨⟨m, e⟩, _⟩ := h
  rw [e]
  exact r.app m
theorem put_law (f : Nat) (s : List UInt8) (b : Bd) (h : Good b) : Step b (b.put f s).1 ∧ KeyAt (b.put f s).1.b s (b.put f s).2 ∧ (b.put f s).1.s = b.s := by
  unfold Bd.put
  split
  · next a ha =>
    split at ha
    · exact ⟨⟨⟨[], by simp⟩, h⟩, ⟨rfl, rfl, h.keys s a ha⟩, rfl⟩
    · cases ha
  · refine ⟨⟨⟨s ++ [0], by simp⟩, ⟨fun k a e => ?_, fun k a e => ?_, fun ks h0 i e => ?_, fun k i e => h.vals k i e⟩⟩, ⟨rfl, rfl, ?_⟩, rfl⟩
    · rcases getP_put e with e | ⟨rfl, rfl⟩
      · have := (h.keys k a e).app (s ++ [0])
        rwa [← List.append_assoc] at this
      · have := At.last b.b (k ++ [0])
        rwa [← List.append_assoc] at this
    · have := (h.texts k a e).app (s ++ [0])
      rwa [← List.append_assoc] at this
    · obtain ⟨kv, kvs, h1, h2, h3⟩ := h.lists ks h0 i e
      have h2 := h2.app (s ++ [0])
      have h3 := h3.app (s ++ [0])
      rw [← List.append_assoc] at h2 h3
      exact ⟨kv, kvs, h1, h2, h3⟩
    · have := At.last b.b (s ++ [0])
      rwa [← List.append_assoc] at this
theorem good_push {b : Bd} (h : Good b) (v : Bv) : Good (b.push v) := h.app [] (by simp [Bd.push]) rfl rfl rfl rfl
theorem key_law (f : Nat) (s : List UInt8) (b : Bd) (h : Good b) : ∃ v, (b.key f s).s = b.s ++ [v] ∧ Step b (b.key f s) ∧ KeyAt (b.key f s).b s v := by
  obtain ⟨⟨h1, h2⟩, h3, h4⟩ := put_law f s b h
  exact ⟨(b.put f s).2, by simp [Bd.key, Bd.push, h4], ⟨h1, good_push h2 _⟩, h3⟩
theorem puts_law (f : Nat) : ∀ (ks : List (List UInt8)) (b : Bd), Good b → Step b (b.puts f ks).1 ∧ KeysAt (b.puts f ks).1.b ks (b.puts f ks).2 ∧ (b.puts f ks).1.s = b.s
  | [], b, h => ⟨⟨⟨[], by simp [Bd.puts]⟩, h⟩, ⟨rfl, fun i s v h => by simp at h⟩, rfl⟩
  | s :: r, b, h => by
    obtain ⟨s1, k1, e1⟩ := put_law f s b h
    obtain ⟨s2, k2, e2⟩ := puts_law f r (b.put f s).1 s1.2
    refine ⟨s1.trans s2, ⟨by simp [Bd.puts, k2.1], fun i x v hx hv => ?_⟩, e2.trans e1⟩
    cases i with
    | zero =>
      simp only [Bd.puts, List.getElem?_cons_zero, Option.some.injEq] at hx hv
      subst hx hv
      obtain ⟨⟨m, e⟩, _⟩ := s2
      simp only [Bd.puts, e]
      exact k1.app m
    | succ i =>
      simp only [Bd.puts, List.getElem?_cons_succ] at hx hv
      exact k2.2 i x v hx hv
theorem vec_law (t : Nat) (len tags : Bool) (l : List Bv) (b : Bd) (h : Good b) (hf : ∀ x ∈ l, Fit b.b.length x) : ∃ v, (b.vec t len tags l).s = b.s ++ [v] ∧ Step b (b.vec t len tags l) ∧ VecAt (b.vec t len tags l).b t len tags l v := by
  obtain ⟨m, e⟩ := vecB_app t len tags l b.b
  exact ⟨(bVec t len tags l b.b).2, rfl, ⟨⟨m, e⟩, h.app m e rfl rfl rfl rfl⟩, b.b, [], by simp [Bd.vec], rfl, hf⟩
theorem text_put (t : Nat) (s z : List UInt8) (l : List UInt8) : TextAt (alignB (bWidth s.length) l ++ leBytes (bWidth s.length) s.length ++ s ++ z) t s z ⟨t, bWidth s.length, (alignB (bWidth s.length) l ++ leBytes (bWidth s.length) s.length).length⟩ := by
  refine ⟨rfl, rfl, (alignB (bWidth s.length) l).length, by rw [List.length_append, leBytes_length], ?_⟩
  have := At.last (alignB (bWidth s.length) l) (leBytes (bWidth s.length) s.length ++ s ++ z)
  simpa only [List.append_assoc] using this
theorem blob_law (s : List UInt8) (b : Bd) (h : Good b) : ∃ v, (b.blob s).s = b.s ++ [v] ∧ Step b (b.blob s) ∧ TextAt (b.blob s).b 25 s [] v := by
  have e : (b.blob s).b = b.b ++ (List.replicate (padN (bWidth s.length) b.b.length) 0 ++ (leBytes (bWidth s.length) s.length ++ s)) := by simp only [Bd.blob, alignB, List.append_assoc]
  refine ⟨_, rfl, ⟨⟨_, e⟩, h.app _ e rfl rfl rfl rfl⟩, ?_⟩
  have := text_put 25 s [] b.b
  rw [List.append_nil] at this
  exact this
theorem str_law (f : Nat) (s : List UInt8) (b : Bd) (h : Good b) : ∃ v, (b.str f s).s = b.s ++ [v] ∧ Step b (b.str f s) ∧ TextAt (b.str f s).b 5 s [0] v := by
  unfold Bd.str
  simp only []
  split
  · next a ha =>
    split at ha
    · exact ⟨_, rfl, ⟨⟨[], by simp [Bd.push]⟩, good_push h _⟩, h.texts s a ha⟩
    · cases ha
  · have e : alignB (bWidth s.length) b.b ++ leBytes (bWidth s.length) s.length ++ s ++ [0] = b.b ++ (List.replicate (padN (bWidth s.length) b.b.length) 0 ++ (leBytes (bWidth s.length) s.length ++ (s ++ [0]))) := by simp only [alignB, List.append_assoc]
    refine ⟨_, rfl, ⟨⟨_, e⟩, ⟨fun k a i => ?_, fun k a i => ?_, fun ks h0 i j => ?_, fun k i j => h.vals k i j⟩⟩, text_put 5 s [0] b.b⟩
    · exact e ▸ (h.keys k a i).app _
    · rcases getP_put i with i | ⟨rfl, rfl⟩
      · exact e ▸ (h.texts k a i).app _
      · exact text_put 5 k [0] b.b
    · obtain ⟨kv, kvs, h1, h2, h3⟩ := h.lists ks h0 i j
      exact ⟨kv, kvs, h1, e ▸ h2.app _, e ▸ h3.app _⟩
theorem apart_law (t w n : Nat) (b : Bd) (h : Good b) : ∃ v, (b.apart t w n).s = b.s ++ [v] ∧ Step b (b.apart t w n) ∧ NumAt (b.apart t w n).b t w n v := by
  have e : (b.apart t w n).b = b.b ++ (List.replicate (padN w b.b.length) 0 ++ leBytes w (n % 2 ^ (8 * w))) := by simp only [Bd.apart, alignB, List.append_assoc]
  exact ⟨_, rfl, ⟨⟨_, e⟩, h.app _ e rfl rfl rfl rfl⟩, rfl, rfl, At.last _ _⟩
end Go.Proofs.YtfoifdoaleaekaaGreat

namespace Go.Proofs.YtfoifdoaleaekaaGreat
open Go.Acc
inductive Ok : Tr → Prop
  | leaf {k : Int} (n u s ks c) (h1 : 1 ≤ k) (h2 : k ≤ 9) : Ok (.mk k n u s ks c)
  | flat {k : Int} (n u s ks c) (h1 : 11 ≤ k) (h2 : k ≤ 16) : Ok (.mk k n u s ks c)
  | vec {c : List Tr} (n u s ks) (h : ∀ t ∈ c, Ok t) : Ok (.mk 10 n u s ks c)
  | map {c : List Tr} {ks : List (List UInt8)} (n u s) (hl : ks.length = c.length) (h0 : ∀ x ∈ ks, (0 : UInt8) ∉ x) (h : ∀ t ∈ c, Ok t) : Ok (.mk 17 n u s ks c)
def Does (f : Nat) (t : Tr) : Prop := ∀ b, Good b → ∃ v, (Bd.calls f t b).s = b.s ++ [v] ∧ Step b (Bd.calls f t b) ∧ Rep (Bd.calls f t b).b v t
theorem leaf_law (f : Nat) {k : Int} (n : Int) (u : Nat) (s : List UInt8) (ks : List (List UInt8)) (c : List Tr) (h1 : 1 ≤ k) (h2 : k ≤ 9) (b : Bd) (h : Good b) : ∃ v, (b.leaf f k n u s).s = b.s ++ [v] ∧ Step b (b.leaf f k n u s) ∧ Rep (b.leaf f k n u s).b v (.mk k n u s ks c) := by
  have hp : ∀ v, Step b (b.push v) := fun v => ⟨⟨[], by simp [Bd.push]⟩, good_push h v⟩
  obtain rfl | rfl | rfl | rfl | rfl | rfl | rfl | rfl | rfl : k = 1 ∨ k = 2 ∨ k = 3 ∨ k = 4 ∨ k = 5 ∨ k = 6 ∨ k = 7 ∨ k = 8 ∨ k = 9 := by omega
  · exact ⟨_, rfl, hp _, .null _ _ _ _ _⟩
  · exact ⟨_, rfl, hp _, .truth _ _ _ _ _⟩
  · exact ⟨_, rfl, hp _, .int _ _ _ _ _⟩
  · exact ⟨_, rfl, hp _, .uint _ _ _ _ _⟩
  · obtain ⟨v, e, st, k⟩ := key_law f s b h
    exact ⟨v, e, st, .key _ _ _ _ k⟩
  · obtain ⟨v, e, st, k⟩ := str_law f s b h
    exact ⟨v, e, st, .str _ _ _ _ k⟩
  · obtain ⟨v, e, st, k⟩ := blob_law s b h
    exact ⟨v, e, st, .blob _ _ _ _ k⟩
  · obtain ⟨v, e, st, k⟩ := apart_law 6 (bWidthI n) (bits n) b h
    exact ⟨v, e, st, .indInt _ _ _ _ k⟩
  · obtain ⟨v, e, st, k⟩ := apart_law 7 (bWidth u) u b h
    exact ⟨v, e, st, .indUint _ _ _ _ k⟩
theorem flat_law (f : Nat) {k : Int} (n : Int) (u : Nat) (s : List UInt8) (ks : List (List UInt8)) (c : List Tr) (h1 : 11 ≤ k) (h2 : k ≤ 16) (b : Bd) (h : Good b) : ∃ v, (b.flat f k c).s = b.s ++ [v] ∧ Step b (b.flat f k c) ∧ Rep (b.flat f k c).b v (.mk k n u s ks c) := by
  obtain rfl | rfl | rfl | rfl | rfl | rfl : k = 11 ∨ k = 12 ∨ k = 13 ∨ k = 14 ∨ k = 15 ∨ k = 16 := by omega
  · obtain ⟨v, e, st, k⟩ := vec_law 11 true false (c.map fun t => numV t.n) b h (fun x hx => by obtain ⟨t, _, rfl⟩ := List.mem_map.1 hx; exact numV_fit _ _)
    exact ⟨v, e, st, .ints _ _ _ _ k⟩
  · obtain ⟨v, e, st, k⟩ := vec_law 12 true false (c.map fun t => unsV t.u) b h (fun x hx => by obtain ⟨t, _, rfl⟩ := List.mem_map.1 hx; exact unsV_fit _ _)
    exact ⟨v, e, st, .uints _ _ _ _ k⟩
  · obtain ⟨s1, k1, e1⟩ := puts_law f (c.map Tr.s) b h
    obtain ⟨v, e, st, k⟩ := vec_law 14 true false (b.puts f (c.map Tr.s)).2 (b.puts f (c.map Tr.s)).1 s1.2 k1.fit
    refine ⟨v, e.trans (by rw [e1]), s1.trans st, .keys _ _ _ _ ?_ k⟩
    obtain ⟨⟨m, em⟩, _⟩ := st
    exact em ▸ k1.app m
  · obtain ⟨v, e, st, k⟩ := vec_law 36 true false (c.map fun t => truthV t.n) b h (fun x hx => by obtain ⟨t, _, rfl⟩ := List.mem_map.1 hx; exact truthV_fit _ _)
    exact ⟨v, e, st, .bools _ _ _ _ k⟩
  · obtain ⟨v, e, st, k⟩ := vec_law (10 + 3 * c.length) false false (c.map fun t => numV t.n) b h (fun x hx => by obtain ⟨t, _, rfl⟩ := List.mem_map.1 hx; exact numV_fit _ _)
    exact ⟨v, e, st, .fixInts _ _ _ _ k⟩
  · obtain ⟨v, e, st, k⟩ := vec_law (11 + 3 * c.length) false false (c.map fun t => unsV t.u) b h (fun x hx => by obtain ⟨t, _, rfl⟩ := List.mem_map.1 hx; exact unsV_fit _ _)
    exact ⟨v, e, st, .fixUints _ _ _ _ k⟩
theorem callsL_law (f : Nat) : ∀ (c : List Tr), (∀ t ∈ c, Does f t) → ∀ b, Good b → ∃ vs, (Bd.callsL f c b).s = b.s ++ vs ∧ vs.length = c.length ∧ Step b (Bd.callsL f c b) ∧ ∀ (i : Nat) x t, vs[i]? = some x → c[i]? = some t → Rep (Bd.callsL f c b).b x t
  | [], _, b, h => ⟨[], by simp [Bd.callsL], rfl, ⟨⟨[], by simp [Bd.callsL]⟩, h⟩, fun i x t h => by simp at h⟩
  | t :: r, hd, b, h => by
    obtain ⟨v, e1, s1, r1⟩ := hd t (by simp) b h
    obtain ⟨vs, e2, l2, s2, r2⟩ := callsL_law f r (fun t ht => hd t (by simp [ht])) (Bd.calls f t b) s1.2
    refine ⟨v :: vs, by rw [Bd.callsL, e2, e1, List.append_assoc]; rfl, by simp [l2], by rw [Bd.callsL]; exact s1.trans s2, fun i x t' hx ht => ?_⟩
    rw [Bd.callsL]
    cases i with
    | zero =>
      simp only [List.getElem?_cons_zero, Option.some.injEq] at hx ht
      subst hx ht
      exact s2.rep r1
    | succ i =>
      simp only [List.getElem?_cons_succ] at hx ht
      exact r2 i x t' hx ht
def both : List Bv → List Bv → List Bv
  | k :: r, v :: q => k :: v :: both r q
  | _, _ => []
theorem evens_both : ∀ (ks vs : List Bv), ks.length = vs.length → evens (both ks vs) = ks ∧ odds (both ks vs) = vs
  | [], [], _ => ⟨rfl, rfl⟩
  | k :: r, v :: q, h => by
    obtain ⟨h1, h2⟩ := evens_both r q (by simpa using h)
    refine ⟨by simp [both, evens, h1], ?_⟩
    simp only [both, odds, List.tail_cons]
    cases r with
    | nil =>
      cases q with
      | nil => rfl
      | cons _ _ => simp at h
    | cons a r =>
      cases q with
      | nil => simp at h
      | cons b q =>
        simp only [both, odds, List.tail_cons] at h2
        simp only [both, evens, h2]
theorem callsM_law (f : Nat) : ∀ (c : List Tr) (ks : List (List UInt8)), ks.length = c.length → (∀ t ∈ c, Does f t) → ∀ b, Good b → ∃ kvs vs, (Bd.callsM f ks c b).s = b.s ++ both kvs vs ∧ vs.length = c.length ∧ Step b (Bd.callsM f ks c b) ∧ KeysAt (Bd.callsM f ks c b).b ks kvs ∧ ∀ (i : Nat) x t, vs[i]? = some x → c[i]? = some t → Rep (Bd.callsM f ks c b).b x t
  | [], ks, hk, _, b, h => by
    obtain rfl : ks = [] := List.eq_nil_of_length_eq_zero hk
    exact ⟨[], [], by simp [Bd.callsM, both], rfl, ⟨⟨[], by simp [Bd.callsM]⟩, h⟩, ⟨rfl, fun i x t h => by simp at h⟩, fun i x t h => by simp at h⟩
  | t :: r, [], hk, _, _, _ => by simp at hk
  | t :: r, s :: ks, hk, hd, b, h => by
    obtain ⟨kv, e0, s0, k0⟩ := key_law f s b h
    obtain ⟨v, e1, s1, r1⟩ := hd t (by simp) (b.key f s) s0.2
    obtain ⟨kvs, vs, e2, l2, s2, k2, r2⟩ := callsM_law f r ks (by simpa using hk) (fun t ht => hd t (by simp [ht])) (Bd.calls f t (b.key f s)) s1.2
    have ee : Bd.callsM f (s :: ks) (t :: r) b = Bd.callsM f ks r (Bd.calls f t (b.key f s)) := by rw [Bd.callsM]; rfl
    rw [ee]
    refine ⟨kv :: kvs, v :: vs, by rw [e2, e1, e0]; simp [both], by simp [l2], (s0.trans s1).trans s2, ⟨by simp [k2.1], fun i x v' hx hv => ?_⟩, fun i x t' hx ht => ?_⟩
    · cases i with
      | zero =>
        simp only [List.getElem?_cons_zero, Option.some.injEq] at hx hv
        subst hx hv
        obtain ⟨⟨m, em⟩, _⟩ := s1.trans s2
        rw [em]
        exact k0.app m
      | succ i =>
        simp only [List.getElem?_cons_succ] at hx hv
        exact k2.2 i x v' hx hv
    · cases i with
      | zero =>
        simp only [List.getElem?_cons_zero, Option.some.injEq] at hx ht
        subst hx ht
        exact s2.rep r1
      | succ i =>
        simp only [List.getElem?_cons_succ] at hx ht
        exact r2 i x t' hx ht
end Go.Proofs.YtfoifdoaleaekaaGreat

namespace Go.Proofs.YtfoifdoaleaekaaGreat
open Go.Acc
theorem cut_zero : ∀ (s s' x x' : List UInt8), (0 : UInt8) ∉ s → (0 : UInt8) ∉ s' → s ++ 0 :: x = s' ++ 0 :: x' → s = s' ∧ x = x'
  | [], [], _, _, _, _, h => ⟨rfl, by simpa using h⟩
  | [], c :: s', _, _, _, h', h => by
    simp only [List.nil_append, List.cons_append, List.cons.injEq] at h
    exact absurd (by simp [← h.1]) h'
  | c :: s, [], _, _, h', _, h => by
    simp only [List.nil_append, List.cons_append, List.cons.injEq] at h
    exact absurd (by simp [h.1]) h'
  | c :: s, d :: s', x, x', h0, h0', h => by
    simp only [List.cons_append, List.cons.injEq] at h
    obtain ⟨e1, e2⟩ := cut_zero s s' x x' (fun hm => h0 (by simp [hm])) (fun hm => h0' (by simp [hm])) h.2
    exact ⟨by rw [h.1, e1], e2⟩
theorem listOf_inj : ∀ (a b : List (List UInt8)), (∀ s ∈ a, (0 : UInt8) ∉ s) → (∀ s ∈ b, (0 : UInt8) ∉ s) → listOf a = listOf b → a = b
  | [], [], _, _, _ => rfl
  | [], s :: r, _, _, h => by simp [listOf] at h
  | s :: r, [], _, _, h => by simp [listOf] at h
  | s :: r, t :: q, ha, hb, h => by
    have h' : s ++ 0 :: listOf r = t ++ 0 :: listOf q := by simpa [listOf] using h
    obtain ⟨e1, e2⟩ := cut_zero s t _ _ (ha s (by simp)) (hb t (by simp)) h'
    rw [e1, listOf_inj r q (fun s hs => ha s (by simp [hs])) (fun s hs => hb s (by simp [hs])) e2]
theorem endMap_law (f : Nat) (ks : List (List UInt8)) (st : List Bv) (b : Bd) (kvs vs : List Bv) (h : Good b) (hs : b.s = st ++ both kvs vs) (hl : kvs.length = vs.length) (h0 : ∀ x ∈ ks, (0 : UInt8) ∉ x) (hk : KeysAt b.b ks kvs) (hf : ∀ x ∈ vs, Fit b.b.length x) :
    ∃ v kv kvs', (b.endMap f ks st.length).s = st ++ [v] ∧ Step b (b.endMap f ks st.length) ∧ KeysAt (b.endMap f ks st.length).b ks kvs' ∧ VecAt (b.endMap f ks st.length).b 14 true false kvs' kv ∧ MapAt (b.endMap f ks st.length).b kv vs v := by
  obtain ⟨h1, h2⟩ := evens_both kvs vs hl
  have hd : b.s.drop st.length = both kvs vs := by rw [hs]; simp
  have ht : b.s.take st.length = st := by rw [hs]; simp
  unfold Bd.endMap
  simp only [hd, ht, h1, h2]
  have hlist : (ks.flatMap fun s => s ++ [0]) = listOf ks := rfl
  rw [hlist]
  split
  · next i hi =>
    split at hi
    · obtain ⟨kv, kvs', e1, k1, v1⟩ := h.lists ks h0 i hi
      have eg : b.vals.getD i ⟨0, 0, 0⟩ = kv := by rw [List.getD_eq_getElem?_getD, e1]; rfl
      obtain ⟨m, em⟩ := mapB_app kv vs b.b
      refine ⟨(mapB kv vs b.b).2, kv, kvs', ?_, ⟨⟨m, ?_⟩, ?_⟩, ?_, ?_, ?_⟩
      · rw [eg]
      · rw [eg]; exact em
      · exact h.app m (by rw [eg]; exact em) rfl rfl rfl rfl
      · rw [eg, em]; exact k1.app m
      · rw [eg, em]; exact v1.app m
      · rw [eg]; exact ⟨b.b, [], by simp, rfl, v1.fit, hf⟩
    · cases hi
  · obtain ⟨m1, e1⟩ := vecB_app 14 true false kvs b.b
    obtain ⟨m2, e2⟩ := mapB_app (bVec 14 true false kvs b.b).2 vs (bVec 14 true false kvs b.b).1
    have e : (mapB (bVec 14 true false kvs b.b).2 vs (bVec 14 true false kvs b.b).1).1 = b.b ++ (m1 ++ m2) := by rw [e2, e1, List.append_assoc]
    have hv : VecAt (mapB (bVec 14 true false kvs b.b).2 vs (bVec 14 true false kvs b.b).1).1 14 true false kvs (bVec 14 true false kvs b.b).2 := ⟨b.b, m2, e2, rfl, hk.fit⟩
    have hfk : Fit (bVec 14 true false kvs b.b).1.length (bVec 14 true false kvs b.b).2 := by
      have := vecB_fit 14 true false kvs b.b []
      rwa [List.append_nil] at this
    have hfv : ∀ x ∈ vs, Fit (bVec 14 true false kvs b.b).1.length x := fun x hx => (hf x hx).mono (by rw [e1]; simp)
    refine ⟨_, (bVec 14 true false kvs b.b).2, kvs, rfl, ⟨⟨m1 ++ m2, e⟩, ⟨fun s a i => ?_, fun s a i => ?_, fun ks' h0' i j => ?_, fun s i j => ?_⟩⟩, ?_, hv, ⟨(bVec 14 true false kvs b.b).1, [], by simp, rfl, hfk, hfv⟩⟩
    · exact e ▸ (h.keys s a i).app _
    · exact e ▸ (h.texts s a i).app _
    · rcases getP_put j with j | ⟨hq, rfl⟩
      · obtain ⟨kv, kvs', g1, g2, g3⟩ := h.lists ks' h0' i j
        refine ⟨kv, kvs', ?_, e ▸ g2.app _, e ▸ g3.app _⟩
        have hlt := h.vals _ i j
        exact (List.getElem?_append_left hlt).trans g1
      · have := listOf_inj ks' ks h0' h0 hq
        subst this
        refine ⟨_, kvs, ?_, e ▸ hk.app _, hv⟩
        simp
    · rcases getP_put j with j | ⟨_, rfl⟩
      · have hlt := h.vals _ i j
        simp only [List.length_append, List.length_singleton]
        omega
      · simp
    · exact e ▸ hk.app _
theorem calls_law (f : Nat) (t : Tr) (h : Ok t) : Does f t := by
  induction h with
  | leaf n u s ks c h1 h2 =>
    intro b hg
    rename_i k
    have e : Bd.calls f (.mk k n u s ks c) b = b.leaf f k n u s := by
      rw [Bd.calls, if_neg (by omega), if_neg (by omega), if_pos h2]
    rw [e]
    exact leaf_law f n u s ks c h1 h2 b hg
  | flat n u s ks c h1 h2 =>
    intro b hg
    rename_i k
    have e : Bd.calls f (.mk k n u s ks c) b = b.flat f k c := by
      rw [Bd.calls, if_neg (by omega), if_neg (by omega), if_neg (by omega)]
    rw [e]
    exact flat_law f n u s ks c h1 h2 b hg
  | vec n u s ks _ ih =>
    intro b hg
    rename_i c _
    obtain ⟨vs, e1, l1, s1, r1⟩ := callsL_law f c ih b hg
    have e : Bd.calls f (.mk 10 n u s ks c) b = (Bd.callsL f c b).endVec b.s.length := by rw [Bd.calls, if_pos rfl]
    have hd : (Bd.callsL f c b).s.drop b.s.length = vs := by rw [e1]; simp
    have ht : (Bd.callsL f c b).s.take b.s.length = b.s := by rw [e1]; simp
    rw [e, Bd.endVec, hd, ht]
    have hg2 : Good { Bd.callsL f c b with s := b.s } := s1.2.app [] (by simp) rfl rfl rfl rfl
    obtain ⟨v, e2, s2, k2⟩ := vec_law 10 true true vs { Bd.callsL f c b with s := b.s } hg2 (reps_fit l1 r1)
    have s3 : Step (Bd.callsL f c b) (Bd.vec 10 true true vs { Bd.callsL f c b with s := b.s }) := s2
    exact ⟨v, e2, s1.trans s3, .vec _ _ _ _ l1 (fun i x t hx ht => s3.rep (r1 i x t hx ht)) k2⟩
  | map n u s hl h0 _ ih =>
    intro b hg
    rename_i c ks _
    obtain ⟨kvs, vs, e1, l1, s1, k1, r1⟩ := callsM_law f c ks hl ih b hg
    have e : Bd.calls f (.mk 17 n u s ks c) b = (Bd.callsM f ks c b).endMap f ks b.s.length := by
      rw [Bd.calls, if_neg (by omega), if_pos rfl]
    rw [e]
    obtain ⟨v, kv, kvs', e2, s2, k2, v2, m2⟩ := endMap_law f ks b.s (Bd.callsM f ks c b) kvs vs s1.2 e1 (by rw [k1.1, l1, hl]) h0 k1 (reps_fit l1 r1)
    exact ⟨v, e2, s1.trans s2, .map _ _ _ k2 v2 l1 (fun i x t hx ht => s2.rep (r1 i x t hx ht)) m2⟩
theorem build_law (f : Nat) (t : Tr) (h : Ok t) : ∃ v, (Bd.calls f t Bd.new).s = [v] ∧ Rep (Bd.calls f t Bd.new).b v t := by
  obtain ⟨v, e, _, r⟩ := calls_law f t h Bd.new good_new
  exact ⟨v, e, r⟩
end Go.Proofs.YtfoifdoaleaekaaGreat

namespace Go.Proofs.YtfoifdoaleaekaaGreat
open Go.RowKit Go.Acc
def inB (n : Nat) (a m : Int) : Bool := decide (0 ≤ a ∧ 0 ≤ m ∧ a + m ≤ n)
theorem inB_iff {n : Nat} {a m : Int} : inB n a m = true ↔ 0 ≤ a ∧ 0 ≤ m ∧ a + m ≤ n := by simp [inB]
def formed (q t v : Int) : Bool := legalT t && isW q && isW v
def mayE (n : Nat) (p q t v : Int) : Int := if formed q t v = true then (if inB n p q = true then 0 else 6) else 2
theorem mayE_ok {n : Nat} {p q t v : Int} : mayE n p q t v = 0 ↔ formed q t v = true ∧ inB n p q = true := by
  unfold mayE
  cases formed q t v <;> cases inB n p q <;> simp
theorem formed_iff {q t v : Int} : formed q t v = true ↔ legalT t = true ∧ isW q = true ∧ isW v = true := by
  simp [formed, and_assoc]
def tgtE (l : List UInt8) (p q t v : Int) : Int :=
  if mayE l.length p q t v = 0 then (if inlineT t = true then 60 else if p < (loadU l p q : Int) then 211 else 0) else mayE l.length p q t v
def tgt (l : List UInt8) (p q t v : Int) : Int := if tgtE l p q t v = 0 then p - loadU l p q else 0
theorem may_load {l : List UInt8} {p q t v : Int} (h : mayE l.length p q t v = 0) : loadE l.length p q = 0 := by
  obtain ⟨h1, h2⟩ := mayE_ok.1 h
  have h1 := formed_iff.1 h1
  have h2 := inB_iff.1 h2
  unfold loadE
  rw [if_pos h1.2.1, if_pos ⟨h2.1, h2.2.2⟩]
theorem tgtE_may {l : List UInt8} {p q t v : Int} (h : mayE l.length p q t v ≠ 0) : tgtE l p q t v = mayE l.length p q t v := if_neg h
theorem tgt_may {l : List UInt8} {p q t v : Int} (h : mayE l.length p q t v ≠ 0) : tgt l p q t v = 0 := by
  unfold tgt
  rw [tgtE_may h, if_neg h]
theorem tgtE_inl {l : List UInt8} {p q t v : Int} (h : mayE l.length p q t v = 0) (hi : inlineT t = true) : tgtE l p q t v = 60 := by
  unfold tgtE
  rw [if_pos h, if_pos hi]
theorem tgt_inl {l : List UInt8} {p q t v : Int} (h : mayE l.length p q t v = 0) (hi : inlineT t = true) : tgt l p q t v = 0 := by
  unfold tgt
  rw [tgtE_inl h hi]
  rfl
theorem tgtE_off {l : List UInt8} {p q t v : Int} (h : mayE l.length p q t v = 0) (hi : inlineT t = false) (hu : p < (loadU l p q : Int)) : tgtE l p q t v = 211 := by
  unfold tgtE
  rw [if_pos h, if_neg (by simp [hi]), if_pos hu]
theorem tgt_off {l : List UInt8} {p q t v : Int} (h : mayE l.length p q t v = 0) (hi : inlineT t = false) (hu : p < (loadU l p q : Int)) : tgt l p q t v = 0 := by
  unfold tgt
  rw [tgtE_off h hi hu]
  rfl
theorem tgtE_ok {l : List UInt8} {p q t v : Int} (h : mayE l.length p q t v = 0) (hi : inlineT t = false) (hu : ¬ p < (loadU l p q : Int)) : tgtE l p q t v = 0 := by
  unfold tgtE
  rw [if_pos h, if_neg (by simp [hi]), if_neg hu]
theorem tgt_ok {l : List UInt8} {p q t v : Int} (h : mayE l.length p q t v = 0) (hi : inlineT t = false) (hu : ¬ p < (loadU l p q : Int)) : tgt l p q t v = p - loadU l p q := by
  unfold tgt
  rw [tgtE_ok h hi hu]
  rfl
def rootE (l : List UInt8) : Int :=
  if l.length < 3 ∨ isW ((l.getD (l.length - 1) 0).toNat : Int) = false then 210
  else if unE (l.getD (l.length - 2) 0) ≠ 0 then unE (l.getD (l.length - 2) 0)
  else if (l.length : Int) - 2 - (l.getD (l.length - 1) 0).toNat < 0 ∨ ((l.length : Int) - 2 - (l.getD (l.length - 1) 0).toNat) % (l.getD (l.length - 1) 0).toNat ≠ 0 then 210 else 0
def rootR (l : List UInt8) : Int × Int × Int × Int :=
  if rootE l = 0 then ((l.length : Int) - 2 - (l.getD (l.length - 1) 0).toNat, (l.getD (l.length - 1) 0).toNat, unT (l.getD (l.length - 2) 0), unW (l.getD (l.length - 2) 0)) else (0, 0, 0, 0)
end Go.Proofs.YtfoifdoaleaekaaGreat
