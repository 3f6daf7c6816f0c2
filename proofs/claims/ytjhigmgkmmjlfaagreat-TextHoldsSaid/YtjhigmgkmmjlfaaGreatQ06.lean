/-
  Package build: the calls for a valid tree leave one value, and it stands for the tree. No program in sight.
  Package build: the calls for a valid tree leave one value, and it stands for the tree: maps, and the whole. No program in sight.
  References, in plain terms: within the bytes, well-formed, target, root, sameness.
  Package build: the document's root. No program in sight.
  Package build: the root of a document, with bytes ahead. No program in sight.
-/
import Derived.Test.YtjhigmgkmmjlfaaGreatQ05
namespace Go.Proofs.YtjhigmgkmmjlfaaGreat
open Go.Acc
/-- A valid tree, as far as the builder needs it. -/
inductive Ok : Tr → Prop
  | leaf {k : Int} (n u s ks c) (h1 : 1 ≤ k) (h2 : k ≤ 9) : Ok (.mk k n u s ks c)
  | flat {k : Int} (n u s ks c) (h1 : 11 ≤ k) (h2 : k ≤ 16) : Ok (.mk k n u s ks c)
  | vec {c : List Tr} (n u s ks) (h : ∀ t ∈ c, Ok t) : Ok (.mk 10 n u s ks c)
  | map {c : List Tr} {ks : List (List UInt8)} (n u s) (hl : ks.length = c.length) (h0 : ∀ x ∈ ks, (0 : UInt8) ∉ x) (h : ∀ t ∈ c, Ok t) : Ok (.mk 17 n u s ks c)
/-- What the calls for a tree do. -/
def Does (f : Nat) (t : Tr) : Prop := ∀ b, Good b → ∃ v, (Bd.calls f t b).s = b.s ++ [v] ∧ Step b (Bd.calls f t b) ∧ Rep (Bd.calls f t b).b v t
theorem leaf_law (f : Nat) {k : Int} (n : Int) (u : Nat) (s : List UInt8) (ks : List (List UInt8)) (c : List Tr) (h1 : 1 ≤ k) (h2 : k ≤ 9) (b : Bd) (h : Good b) : ∃ v, (b.leaf f k n u s).s = b.s ++ [v] ∧ Step b (b.leaf f k n u s) ∧ Rep (b.leaf f k n u s).b v (.mk k n u s ks c) := by
  have hp : ∀ v, Step b (b.push v) := fun v => ⟨⟨[], by simp [Bd.push]⟩, good_push h v⟩
  obtain rfl | rfl | rfl | rfl | rfl | rfl | rfl | rfl | rfl : k = 1 ∨ k = 2 ∨ k = 3 ∨ k = 4 ∨ k = 5 ∨ k = 6 ∨ k = 7 ∨ k = 8 ∨ k = 9 := by omega
  · exact ⟨_, rfl, hp _, .null _ _ _ _ _⟩
  · exact ⟨_, rfl, hp _, .truth _ _ _ _ _⟩
  · exact ⟨_, rfl, hp _, .int _ _ _ _ _⟩
  · exact ⟨_, rfl, hp _, .uint _ _ _ _ _⟩
  · obtain ⟨v, e, st, k⟩ := key_law f s b h
    exact ⟨v, e, st, .key _ _ _ _ k⟩
  · obtain ⟨v, e, st, k⟩ := str_law f s b h
    exact ⟨v, e, st, .str _ _ _ _ k⟩
  · obtain ⟨v, e, st, k⟩ := blob_law s b h
    exact ⟨v, e, st, .blob _ _ _ _ k⟩
  · obtain ⟨v, e, st, k⟩ := apart_law 6 (bWidthI n) (bits n) b h
    exact ⟨v, e, st, .indInt _ _ _ _ k⟩
  · obtain ⟨v, e, st, k⟩ := apart_law 7 (bWidth u) u b h
    exact ⟨v, e, st, .indUint _ _ _ _ k⟩
theorem flat_law (f : Nat) {k : Int} (n : Int) (u : Nat) (s : List UInt8) (ks : List (List UInt8)) (c : List Tr) (h1 : 11 ≤ k) (h2 : k ≤ 16) (b : Bd) (h : Good b) : ∃ v, (b.flat f k c).s = b.s ++ [v] ∧ Step b (b.flat f k c) ∧ Rep (b.flat f k c).b v (.mk k n u s ks c) := by
  obtain rfl | rfl | rfl | rfl | rfl | rfl : k = 11 ∨ k = 12 ∨ k = 13 ∨ k = 14 ∨ k = 15 ∨ k = 16 := by omega
  · obtain ⟨v, e, st, k⟩ := vec_law 11 true false (c.map fun t => numV t.n) b h (fun x hx => by obtain ⟨t, _, rfl⟩ := List.mem_map.1 hx; exact numV_fit _ _)
    exact ⟨v, e, st, .ints _ _ _ _ k⟩
  · obtain ⟨v, e, st, k⟩ := vec_law 12 true false (c.map fun t => unsV t.u) b h (fun x hx => by obtain ⟨t, _, rfl⟩ := List.mem_map.1 hx; exact unsV_fit _ _)
    exact ⟨v, e, st, .uints _ _ _ _ k⟩
  · obtain ⟨s1, k1, e1⟩ := puts_law f (c.map Tr.s) b h
    obtain ⟨v, e, st, k⟩ := vec_law 14 true false (b.puts f (c.map Tr.s)).2 (b.puts f (c.map Tr.s)).1 s1.2 k1.fit
    refine ⟨v, e.trans (by rw [e1]), s1.trans st, .keys _ _ _ _ ?_ k⟩
    obtain ⟨⟨m, em⟩, _⟩ := st
    exact em ▸ k1.app m
  · obtain ⟨v, e, st, k⟩ := vec_law 36 true false (c.map fun t => truthV t.n) b h (fun x hx => by obtain ⟨t, _, rfl⟩ := List.mem_map.1 hx; exact truthV_fit _ _)
    exact ⟨v, e, st, .bools _ _ _ _ k⟩
  · obtain ⟨v, e, st, k⟩ := vec_law (10 + 3 * c.length) false false (c.map fun t => numV t.n) b h (fun x hx => by obtain ⟨t, _, rfl⟩ := List.mem_map.1 hx; exact numV_fit _ _)
    exact ⟨v, e, st, .fixInts _ _ _ _ k⟩
  · obtain ⟨v, e, st, k⟩ := vec_law (11 + 3 * c.length) false false (c.map fun t => unsV t.u) b h (fun x hx => by obtain ⟨t, _, rfl⟩ := List.mem_map.1 hx; exact unsV_fit _ _)
    exact ⟨v, e, st, .fixUints _ _ _ _ k⟩
theorem callsL_law (f : Nat) : ∀ (c : List Tr), (∀ t ∈ c, Does f t) → ∀ b, Good b → ∃ vs, (Bd.callsL f c b).s = b.s ++ vs ∧ vs.length = c.length ∧ Step b (Bd.callsL f c b) ∧ ∀ (i : Nat) x t, vs[i]? = some x → c[i]? = some t → Rep (Bd.callsL f c b).b x t
  | [], _, b, h => ⟨[], by simp [Bd.callsL], rfl, ⟨⟨[], by simp [Bd.callsL]⟩, h⟩, fun i x t h => by simp at h⟩
  | t :: r, hd, b, h => by
    obtain ⟨v, e1, s1, r1⟩ := hd t (by simp) b h
    obtain ⟨vs, e2, l2, s2, r2⟩ := callsL_law f r (fun t ht => hd t (by simp [ht])) (Bd.calls f t b) s1.2
    refine ⟨v :: vs, by rw [Bd.callsL, e2, e1, List.append_assoc]; rfl, by simp [l2], by rw [Bd.callsL]; exact s1.trans s2, fun i x t' hx ht => ?_⟩
    rw [Bd.callsL]
    cases i with
    | zero =>
      simp only [List.getElem?_cons_zero, Option.some.injEq] at hx ht
      subst hx ht
      exact s2.rep r1
    | succ i =>
      simp only [List.getElem?_cons_succ] at hx ht
      exact r2 i x t' hx ht
/-- Keys and values in turn. -/
def both : List Bv → List Bv → List Bv
  | k :: r, v :: q => k :: v :: both r q
  | _, _ => []
theorem evens_both : ∀ (ks vs : List Bv), ks.length = vs.length → evens (both ks vs) = ks ∧ odds (both ks vs) = vs
  | [], [], _ => ⟨rfl, rfl⟩
  | k :: r, v :: q, h => by
    obtain ⟨h1, h2⟩ := evens_both r q (by simpa using h)
    refine ⟨by simp [both, evens, h1], ?_⟩
    simp only [both, odds, List.tail_cons]
    cases r with
    | nil =>
      cases q with
      | nil => rfl
      | cons _ _ => simp at h
    | cons a r =>
      cases q with
      | nil => simp at h
      | cons b q =>
        simp only [both, odds, List.tail_cons] at h2
        simp only [both, evens, h2]
theorem callsM_law (f : Nat) : ∀ (c : List Tr) (ks : List (List UInt8)), ks.length = c.length → (∀ t ∈ c, Does f t) → ∀ b, Good b → ∃ kvs vs, (Bd.callsM f ks c b).s = b.s ++ both kvs vs ∧ vs.length = c.length ∧ Step b (Bd.callsM f ks c b) ∧ KeysAt (Bd.callsM f ks c b).b ks kvs ∧ ∀ (i : Nat) x t, vs[i]? = some x → c[i]? = some t → Rep (Bd.callsM f ks c b).b x t
  | [], ks, hk, _, b, h => by
    obtain rfl : ks = [] := List.eq_nil_of_length_eq_zero hk
    exact ⟨[], [], by simp [Bd.callsM, both], rfl, ⟨⟨[], by simp [Bd.callsM]⟩, h⟩, ⟨rfl, fun i x t h => by simp at h⟩, fun i x t h => by simp at h⟩
  | t :: r, [], hk, _, _, _ => by simp at hk
  | t :: r, s :: ks, hk, hd, b, h => by
    obtain ⟨kv, e0, s0, k0⟩ := key_law f s b h
    obtain ⟨v, e1, s1, r1⟩ := hd t (by simp) (b.key f s) s0.2
    obtain ⟨kvs, vs, e2, l2, s2, k2, r2⟩ := callsM_law f r ks (by simpa using hk) (fun t ht => hd t (by simp [ht])) (Bd.calls f t (b.key f s)) s1.2
    have ee : Bd.callsM f (s :: ks) (t :: r) b = Bd.callsM f ks r (Bd.calls f t (b.key f s)) := by rw [Bd.callsM]; rfl
    rw [ee]
    refine ⟨kv :: kvs, v :: vs, by rw [e2, e1, e0]; simp [both], by simp [l2], (s0.trans s1).trans s2, ⟨by simp [k2.1], fun i x v' hx hv => ?_⟩, fun i x t' hx ht => ?_⟩
    · cases i with
      | zero =>
        simp only [List.getElem?_cons_zero, Option.some.injEq] at hx hv
        subst hx hv
        obtain ⟨⟨m, em⟩, _⟩ := s1.trans s2
        rw [em]
        exact k0.app m
      | succ i =>
        simp only [List.getElem?_cons_succ] at hx hv
        exact k2.2 i x v' hx hv
    · cases i with
      | zero =>
        simp only [List.getElem?_cons_zero, Option.some.injEq] at hx ht
        subst hx ht
        exact s2.rep r1
      | succ i =>
        simp only [List.getElem?_cons_succ] at hx ht
        exact r2 i x t' hx ht
end Go.Proofs.YtjhigmgkmmjlfaaGreat

namespace Go.Proofs.YtjhigmgkmmjlfaaGreat
open Go.Acc
theorem cut_zero : ∀ (s s' x x' : List UInt8), (0 : UInt8) ∉ s → (0 : UInt8) ∉ s' → s ++ 0 :: x = s' ++ 0 :: x' → s = s' ∧ x = x'
  | [], [], _, _, _, _, h => ⟨rfl, by simpa using h⟩
  | [], c :: s', _, _, _, h', h => by
    simp only [List.nil_append, List.cons_append, List.cons.injEq] at h
    exact absurd (by simp [← h.1]) h'
  | c :: s, [], _, _, h', _, h => by
    simp only [List.nil_append, List.cons_append, List.cons.injEq] at h
    exact absurd (by simp [h.1]) h'
  | c :: s, d :: s', x, x', h0, h0', h => by
    simp only [List.cons_append, List.cons.injEq] at h
    obtain ⟨e1, e2⟩ := cut_zero s s' x x' (fun hm => h0 (by simp [hm])) (fun hm => h0' (by simp [hm])) h.2
    exact ⟨by rw [h.1, e1], e2⟩
theorem listOf_inj : ∀ (a b : List (List UInt8)), (∀ s ∈ a, (0 : UInt8) ∉ s) → (∀ s ∈ b, (0 : UInt8) ∉ s) → listOf a = listOf b → a = b
  | [], [], _, _, _ => rfl
  | [], s :: r, _, _, h => by simp [listOf] at h
  | s :: r, [], _, _, h => by simp [listOf] at h
  | s :: r, t :: q, ha, hb, h => by
    have h' : s ++ 0 :: listOf r = t ++ 0 :: listOf q := by simpa [listOf] using h
    obtain ⟨e1, e2⟩ := cut_zero s t _ _ (ha s (by simp)) (hb t (by simp)) h'
    rw [e1, listOf_inj r q (fun s hs => ha s (by simp [hs])) (fun s hs => hb s (by simp [hs])) e2]
theorem endMap_law (f : Nat) (ks : List (List UInt8)) (st : List Bv) (b : Bd) (kvs vs : List Bv) (h : Good b) (hs : b.s = st ++ both kvs vs) (hl : kvs.length = vs.length) (h0 : ∀ x ∈ ks, (0 : UInt8) ∉ x) (hk : KeysAt b.b ks kvs) (hf : ∀ x ∈ vs, Fit b.b.length x) :
    ∃ v kv kvs', (b.endMap f ks st.length).s = st ++ [v] ∧ Step b (b.endMap f ks st.length) ∧ KeysAt (b.endMap f ks st.length).b ks kvs' ∧ VecAt (b.endMap f ks st.length).b 14 true false kvs' kv ∧ MapAt (b.endMap f ks st.length).b kv vs v := by
  obtain ⟨h1, h2⟩ := evens_both kvs vs hl
  have hd : b.s.drop st.length = both kvs vs := by rw [hs]; simp
  have ht : b.s.take st.length = st := by rw [hs]; simp
  unfold Bd.endMap
  simp only [hd, ht, h1, h2]
  have hlist : (ks.flatMap fun s => s ++ [0]) = listOf ks := rfl
  rw [hlist]
  split
  · next i hi =>
    split at hi
    · obtain ⟨kv, kvs', e1, k1, v1⟩ := h.lists ks h0 i hi
      have eg : b.vals.getD i ⟨0, 0, 0⟩ = kv := by rw [List.getD_eq_getElem?_getD, e1]; rfl
      obtain ⟨m, em⟩ := mapB_app kv vs b.b
      refine ⟨(mapB kv vs b.b).2, kv, kvs', ?_, ⟨⟨m, ?_⟩, ?_⟩, ?_, ?_, ?_⟩
      · rw [eg]
      · rw [eg]; exact em
      · exact h.app m (by rw [eg]; exact em) rfl rfl rfl rfl
      · rw [eg, em]; exact k1.app m
      · rw [eg, em]; exact v1.app m
      · rw [eg]; exact ⟨b.b, [], by simp, rfl, v1.fit, hf⟩
    · cases hi
  · obtain ⟨m1, e1⟩ := vecB_app 14 true false kvs b.b
    obtain ⟨m2, e2⟩ := mapB_app (bVec 14 true false kvs b.b).2 vs (bVec 14 true false kvs b.b).1
    have e : (mapB (bVec 14 true false kvs b.b).2 vs (bVec 14 true false kvs b.b).1).1 = b.b ++ (m1 ++ m2) := by rw [e2, e1, List.append_assoc]
    have hv : VecAt (mapB (bVec 14 true false kvs b.b).2 vs (bVec 14 true false kvs b.b).1).1 14 true false kvs (bVec 14 true false kvs b.b).2 := ⟨b.b, m2, e2, rfl, hk.fit⟩
    have hfk : Fit (bVec 14 true false kvs b.b).1.length (bVec 14 true false kvs b.b).2 := by
      have := vecB_fit 14 true false kvs b.b []
      rwa [List.append_nil] at this
    have hfv : ∀ x ∈ vs, Fit (bVec 14 true false kvs b.b).1.length x := fun x hx => (hf x hx).mono (by rw [e1]; simp)
    refine ⟨_, (bVec 14 true false kvs b.b).2, kvs, rfl, ⟨⟨m1 ++ m2, e⟩, ⟨fun s a i => ?_, fun s a i => ?_, fun ks' h0' i j => ?_, fun s i j => ?_⟩⟩, ?_, hv, ⟨(bVec 14 true false kvs b.b).1, [], by simp, rfl, hfk, hfv⟩⟩
    · exact e ▸ (h.keys s a i).app _
    · exact e ▸ (h.texts s a i).app _
    · rcases getP_put j with j | ⟨hq, rfl⟩
      · obtain ⟨kv, kvs', g1, g2, g3⟩ := h.lists ks' h0' i j
        refine ⟨kv, kvs', ?_, e ▸ g2.app _, e ▸ g3.app _⟩
        have hlt := h.vals _ i j
        exact (List.getElem?_append_left hlt).trans g1
      · have := listOf_inj ks' ks h0' h0 hq
        subst this
        refine ⟨_, kvs, ?_, e ▸ hk.app _, hv⟩
        simp
    · rcases getP_put j with j | ⟨_, rfl⟩
      · have hlt := h.vals _ i j
        simp only [List.length_append, List.length_singleton]
        omega
      · simp
    · exact e ▸ hk.app _
theorem calls_law (f : Nat) (t : Tr) (h : Ok t) : Does f t := by
  induction h with
  | leaf n u s ks c h1 h2 =>
    intro b hg
    rename_i k
    have e : Bd.calls f (.mk k n u s ks c) b = b.leaf f k n u s := by
      rw [Bd.calls, if_neg (by omega), if_neg (by omega), if_pos h2]
    rw [e]
    exact leaf_law f n u s ks c h1 h2 b hg
  | flat n u s ks c h1 h2 =>
    intro b hg
    rename_i k
    have e : Bd.calls f (.mk k n u s ks c) b = b.flat f k c := by
      rw [Bd.calls, if_neg (by omega), if_neg (by omega), if_neg (by omega)]
    rw [e]
    exact flat_law f n u s ks c h1 h2 b hg
  | vec n u s ks _ ih =>
    intro b hg
    rename_i c _
    obtain ⟨vs, e1, l1, s1, r1⟩ := callsL_law f c ih b hg
    have e : Bd.calls f (.mk 10 n u s ks c) b = (Bd.callsL f c b).endVec b.s.length := by rw [Bd.calls, if_pos rfl]
    have hd : (Bd.callsL f c b).s.drop b.s.length = vs := by rw [e1]; simp
    have ht : (Bd.callsL f c b).s.take b.s.length = b.s := by rw [e1]; simp
    rw [e, Bd.endVec, hd, ht]
    have hg2 : Good { Bd.callsL f c b with s := b.s } := s1.2.app [] (by simp) rfl rfl rfl rfl
    obtain ⟨v, e2, s2, k2⟩ := vec_law 10 true true vs { Bd.callsL f c b with s := b.s } hg2 (reps_fit l1 r1)
    have s3 : Step (Bd.callsL f c b) (Bd.vec 10 true true vs { Bd.callsL f c b with s := b.s }) := s2
    exact ⟨v, e2, s1.trans s3, .vec _ _ _ _ l1 (fun i x t hx ht => s3.rep (r1 i x t hx ht)) k2⟩
  | map n u s hl h0 _ ih =>
    intro b hg
    rename_i c ks _
    obtain ⟨kvs, vs, e1, l1, s1, k1, r1⟩ := callsM_law f c ks hl ih b hg
    have e : Bd.calls f (.mk 17 n u s ks c) b = (Bd.callsM f ks c b).endMap f ks b.s.length := by
      rw [Bd.calls, if_neg (by omega), if_pos rfl]
    rw [e]
    obtain ⟨v, kv, kvs', e2, s2, k2, v2, m2⟩ := endMap_law f ks b.s (Bd.callsM f ks c b) kvs vs s1.2 e1 (by rw [k1.1, l1, hl]) h0 k1 (reps_fit l1 r1)
    exact ⟨v, e2, s1.trans s2, .map _ _ _ k2 v2 l1 (fun i x t hx ht => s2.rep (r1 i x t hx ht)) m2⟩
/-- What the whole build leaves behind: one value that stands for the tree. -/
theorem build_law (f : Nat) (t : Tr) (h : Ok t) : ∃ v, (Bd.calls f t Bd.new).s = [v] ∧ Rep (Bd.calls f t Bd.new).b v t := by
  obtain ⟨v, e, _, r⟩ := calls_law f t h Bd.new good_new
  exact ⟨v, e, r⟩
end Go.Proofs.YtjhigmgkmmjlfaaGreat

namespace Go.Proofs.YtjhigmgkmmjlfaaGreat
open Go.RowKit Go.Acc
def inB (n : Nat) (a m : Int) : Bool := decide (0 ≤ a ∧ 0 ≤ m ∧ a + m ≤ n)
theorem inB_iff {n : Nat} {a m : Int} : inB n a m = true ↔ 0 ≤ a ∧ 0 ≤ m ∧ a + m ≤ n := by simp [inB]
theorem inB_no {n : Nat} {a m : Int} (h : inB n a m = false) : ¬ (0 ≤ a ∧ 0 ≤ m ∧ a + m ≤ n) := by rw [← inB_iff, h]; simp
def formed (q t v : Int) : Bool := legalT t && isW q && isW v
def mayE (n : Nat) (p q t v : Int) : Int := if formed q t v = true then (if inB n p q = true then 0 else 6) else 2
theorem mayE_ok {n : Nat} {p q t v : Int} : mayE n p q t v = 0 ↔ formed q t v = true ∧ inB n p q = true := by
  unfold mayE
  cases formed q t v <;> cases inB n p q <;> simp
theorem formed_iff {q t v : Int} : formed q t v = true ↔ legalT t = true ∧ isW q = true ∧ isW v = true := by
  simp [formed, and_assoc]
def tgtE (l : List UInt8) (p q t v : Int) : Int :=
  if mayE l.length p q t v = 0 then (if inlineT t = true then 60 else if p < (loadU l p q : Int) then 211 else 0) else mayE l.length p q t v
def tgt (l : List UInt8) (p q t v : Int) : Int := if tgtE l p q t v = 0 then p - loadU l p q else 0
theorem may_load {l : List UInt8} {p q t v : Int} (h : mayE l.length p q t v = 0) : loadE l.length p q = 0 := by
  obtain ⟨h1, h2⟩ := mayE_ok.1 h
  have h1 := formed_iff.1 h1
  have h2 := inB_iff.1 h2
  unfold loadE
  rw [if_pos h1.2.1, if_pos ⟨h2.1, h2.2.2⟩]
theorem tgtE_may {l : List UInt8} {p q t v : Int} (h : mayE l.length p q t v ≠ 0) : tgtE l p q t v = mayE l.length p q t v := if_neg h
theorem tgt_may {l : List UInt8} {p q t v : Int} (h : mayE l.length p q t v ≠ 0) : tgt l p q t v = 0 := by
  unfold tgt
  rw [tgtE_may h, if_neg h]
theorem tgtE_inl {l : List UInt8} {p q t v : Int} (h : mayE l.length p q t v = 0) (hi : inlineT t = true) : tgtE l p q t v = 60 := by
  unfold tgtE
  rw [if_pos h, if_pos hi]
theorem tgt_inl {l : List UInt8} {p q t v : Int} (h : mayE l.length p q t v = 0) (hi : inlineT t = true) : tgt l p q t v = 0 := by
  unfold tgt
  rw [tgtE_inl h hi]
  rfl
theorem tgtE_off {l : List UInt8} {p q t v : Int} (h : mayE l.length p q t v = 0) (hi : inlineT t = false) (hu : p < (loadU l p q : Int)) : tgtE l p q t v = 211 := by
  unfold tgtE
  rw [if_pos h, if_neg (by simp [hi]), if_pos hu]
theorem tgt_off {l : List UInt8} {p q t v : Int} (h : mayE l.length p q t v = 0) (hi : inlineT t = false) (hu : p < (loadU l p q : Int)) : tgt l p q t v = 0 := by
  unfold tgt
  rw [tgtE_off h hi hu]
  rfl
theorem tgtE_ok {l : List UInt8} {p q t v : Int} (h : mayE l.length p q t v = 0) (hi : inlineT t = false) (hu : ¬ p < (loadU l p q : Int)) : tgtE l p q t v = 0 := by
  unfold tgtE
  rw [if_pos h, if_neg (by simp [hi]), if_neg hu]
theorem tgt_ok {l : List UInt8} {p q t v : Int} (h : mayE l.length p q t v = 0) (hi : inlineT t = false) (hu : ¬ p < (loadU l p q : Int)) : tgt l p q t v = p - loadU l p q := by
  unfold tgt
  rw [tgtE_ok h hi hu]
  rfl
def sameR (p q t v p' q' t' v' : Int) : Bool := decide (p = p' ∧ q = q' ∧ t = t' ∧ (inlineT t = true ∨ t = 4 ∨ v = v'))
/-- The error of the root, and its four numbers. -/
def rootE (l : List UInt8) : Int :=
  if l.length < 3 ∨ isW ((l.getD (l.length - 1) 0).toNat : Int) = false then 210
  else if unE (l.getD (l.length - 2) 0) ≠ 0 then unE (l.getD (l.length - 2) 0)
  else if (l.length : Int) - 2 - (l.getD (l.length - 1) 0).toNat < 0 ∨ ((l.length : Int) - 2 - (l.getD (l.length - 1) 0).toNat) % (l.getD (l.length - 1) 0).toNat ≠ 0 then 210 else 0
def rootR (l : List UInt8) : Int × Int × Int × Int :=
  if rootE l = 0 then ((l.length : Int) - 2 - (l.getD (l.length - 1) 0).toNat, (l.getD (l.length - 1) 0).toNat, unT (l.getD (l.length - 2) 0), unW (l.getD (l.length - 2) 0)) else (0, 0, 0, 0)
end Go.Proofs.YtjhigmgkmmjlfaaGreat

namespace Go.Proofs.YtjhigmgkmmjlfaaGreat
open Go.Acc
theorem leastW_is (f : Nat → Bool) (h : f 8 = true) : (leastW f = 1 ∨ leastW f = 2 ∨ leastW f = 4 ∨ leastW f = 8) ∧ f (leastW f) = true := by
  unfold leastW
  by_cases h1 : f 1 = true
  · rw [if_pos h1]; exact ⟨Or.inl rfl, h1⟩
  · by_cases h2 : f 2 = true
    · rw [if_neg h1, if_pos h2]; exact ⟨Or.inr (Or.inl rfl), h2⟩
    · by_cases h4 : f 4 = true
      · rw [if_neg h1, if_neg h2, if_pos h4]; exact ⟨Or.inr (Or.inr (Or.inl rfl)), h4⟩
      · rw [if_neg h1, if_neg h2, if_neg h4, if_pos h]; exact ⟨Or.inr (Or.inr (Or.inr rfl)), h⟩
theorem isW_nat {w : Nat} : isW w = true ↔ w = 1 ∨ w = 2 ∨ w = 4 ∨ w = 8 := by
  simp only [isW, decide_eq_true_eq]
  omega
theorem fitsV8 {a : Nat} {v : Bv} (h : Fit a v) (i : Nat) : fitsV v a i 8 = true := by
  unfold fitsV
  cases e : inl v.t with
  | true => simp [h.1 e]
  | false => simp [h.2 e, bWidth_le]
theorem fitsL8 {a : Nat} : ∀ (vs : List Bv) (i : Nat), (∀ x ∈ vs, Fit a x) → fitsL a 8 i vs = true
  | [], _, _ => rfl
  | v :: r, i, h => by
    rw [fitsL, fitsV8 (h v (by simp)), fitsL8 r (i + 1) (fun x hx => h x (by simp [hx]))]
    rfl
theorem fitAll8 {a ahead : Nat} {k : Option Bv} {vs : List Bv} (hk : ∀ x, k = some x → Fit a x) (h : ∀ x ∈ vs, Fit a x) : isW (fitAll a ahead k vs) = true := by
  refine isW_nat.2 (leastW_is _ ?_).1
  rw [fitF, fitsL8 vs ahead h]
  cases k with
  | none => simp [fitK, bWidth_le]
  | some x => simp [fitK, bWidth_le, fitsV8 (hk x rfl)]
theorem VecAt.width {l : List UInt8} {t : Nat} {len tags : Bool} {vs : List Bv} {v : Bv} (h : VecAt l t len tags vs v) : v.t = t ∧ isW v.w = true := by
  obtain ⟨b, m, _, rfl, hf⟩ := h
  exact ⟨rfl, show isW ((fitAll b.length (if len = true then 1 else 0) none vs : Nat) : Int) = true from fitAll8 (k := none) (fun _ e => by cases e) hf⟩
theorem MapAt.width {l : List UInt8} {k : Bv} {vs : List Bv} {v : Bv} (h : MapAt l k vs v) : v.t = 9 ∧ isW v.w = true := by
  obtain ⟨b, m, _, rfl, hk, hf⟩ := h
  exact ⟨rfl, show isW ((fitAll b.length 3 (some k) vs : Nat) : Int) = true from fitAll8 (k := some k) (fun x e => by injection e with e; exact e ▸ hk) hf⟩
theorem bWidth_is (u : Nat) : isW (bWidth u) = true := isW_nat.2 (by unfold bWidth; (repeat' split) <;> simp)
theorem bWidthI_is (n : Int) : isW (bWidthI n) = true := isW_nat.2 (by unfold bWidthI; (repeat' split) <;> simp)
/-- A fixed vector has two, three or four elements. -/
def FixOk (t : Tr) : Prop := t.k = 15 ∨ t.k = 16 → t.l.length = 2 ∨ t.l.length = 3 ∨ t.l.length = 4
theorem Rep.legal {l : List UInt8} {v : Bv} {t : Tr} (h : Rep l v t) (hx : FixOk t) : legalT v.t = true ∧ isW v.w = true ∧ kindT v.t = t.k := by
  cases h with
  | null => exact ⟨by decide, by decide, show kindT 0 = 1 by decide⟩
  | truth n u s ks c => exact ⟨show legalT 26 = true by decide, show isW 1 = true by decide, show kindT 26 = 2 by decide⟩
  | int n u s ks c => exact ⟨show legalT 1 = true by decide, bWidthI_is n, show kindT 1 = 3 by decide⟩
  | uint n u s ks c => exact ⟨show legalT 2 = true by decide, bWidth_is u, show kindT 2 = 4 by decide⟩
  | key _ _ _ _ h => rw [h.1, h.2.1]; exact ⟨by decide, by decide, show kindT 4 = 5 by decide⟩
  | str _ _ _ _ h => rw [h.1, h.2.1]; exact ⟨by decide, bWidth_is _, show kindT 5 = 6 by decide⟩
  | blob _ _ _ _ h => rw [h.1, h.2.1]; exact ⟨by decide, bWidth_is _, show kindT 25 = 7 by decide⟩
  | indInt _ _ _ _ h => rw [h.1, h.2.1]; exact ⟨by decide, bWidthI_is _, show kindT 6 = 8 by decide⟩
  | indUint _ _ _ _ h => rw [h.1, h.2.1]; exact ⟨by decide, bWidth_is _, show kindT 7 = 9 by decide⟩
  | ints _ _ _ _ h => rw [h.width.1]; exact ⟨by decide, h.width.2, show kindT 11 = 11 by decide⟩
  | uints _ _ _ _ h => rw [h.width.1]; exact ⟨by decide, h.width.2, show kindT 12 = 12 by decide⟩
  | bools _ _ _ _ h => rw [h.width.1]; exact ⟨by decide, h.width.2, show kindT 36 = 14 by decide⟩
  | keys _ _ _ _ _ h => rw [h.width.1]; exact ⟨by decide, h.width.2, show kindT 14 = 13 by decide⟩
  | vec _ _ _ _ _ _ h => rw [h.width.1]; exact ⟨by decide, h.width.2, show kindT 10 = 10 by decide⟩
  | map _ _ _ _ _ _ _ h => rw [h.width.1]; exact ⟨by decide, h.width.2, show kindT 9 = 17 by decide⟩
  | fixInts _ _ _ _ h =>
    rename_i c n u s ks
    have hx : c.length = 2 ∨ c.length = 3 ∨ c.length = 4 := hx (Or.inl rfl)
    have hw := h.width.2
    rw [h.width.1]
    rcases hx with e | e | e <;> rw [e]
    · exact ⟨by decide, hw, show kindT 16 = 15 by decide⟩
    · exact ⟨by decide, hw, show kindT 19 = 15 by decide⟩
    · exact ⟨by decide, hw, show kindT 22 = 15 by decide⟩
  | fixUints _ _ _ _ h =>
    rename_i c n u s ks
    have hx : c.length = 2 ∨ c.length = 3 ∨ c.length = 4 := hx (Or.inr rfl)
    have hw := h.width.2
    rw [h.width.1]
    rcases hx with e | e | e <;> rw [e]
    · exact ⟨by decide, hw, show kindT 17 = 16 by decide⟩
    · exact ⟨by decide, hw, show kindT 20 = 16 by decide⟩
    · exact ⟨by decide, hw, show kindT 23 = 16 by decide⟩
theorem tag_is (t w : Nat) (ht : legalT t = true) (hw : isW w = true) : unT (UInt8.ofNat (4 * t + bCode w)) = t ∧ unW (UInt8.ofNat (4 * t + bCode w)) = w ∧ unE (UInt8.ofNat (4 * t + bCode w)) = 0 := by
  have h37 := isT_iff.1 (legal_isT ht)
  have hc : bCode w < 4 := by unfold bCode; (repeat' split) <;> omega
  have hn : (UInt8.ofNat (4 * t + bCode w)).toNat = 4 * t + bCode w := by
    rw [UInt8.toNat_ofNat']
    omega
  have hd : (((UInt8.ofNat (4 * t + bCode w)).toNat : Nat) : Int) / 4 = t := by rw [hn]; omega
  have hm : (UInt8.ofNat (4 * t + bCode w)).toNat % 4 = bCode w := by rw [hn]; omega
  refine ⟨by rw [unT, hd, if_pos ht], ?_, by rw [unE, hd, if_pos ht]⟩
  rw [unW, hd, if_pos ht, hm]
  rcases isW_nat.1 hw with rfl | rfl | rfl | rfl <;> rfl
end Go.Proofs.YtjhigmgkmmjlfaaGreat

namespace Go.Proofs.YtjhigmgkmmjlfaaGreat
open Go.Acc
theorem align_len {w : Nat} (hw : isW w = true) (b : List UInt8) : (alignB w b).length = upN b.length w ∧ (alignB w b).length % w = 0 ∧ b.length ≤ (alignB w b).length := by
  simp only [alignB, List.length_append, List.length_replicate, padN, upN]
  rcases isW_nat.1 hw with rfl | rfl | rfl | rfl <;> omega
theorem bWidth_lt {u w : Nat} (hw : isW w = true) (hu : u < 2 ^ 64) (h : bWidth u ≤ w) : u < 2 ^ (8 * w) := by
  unfold bWidth at h
  rcases isW_nat.1 hw with rfl | rfl | rfl | rfl <;> (repeat' split at h) <;> omega
/-- A document: the bytes b with the value v in them, the width w of the root. -/
def docB (b : List UInt8) (v : Bv) (w : Nat) : List UInt8 := alignB w b ++ leBytes w (elemN w (alignB w b).length v) ++ [bTag w v, UInt8.ofNat w]
theorem build_doc (f : Nat) (t : Tr) (h : Ok t) : ∃ b v w, bBuild f t = docB b v w ∧ Rep b v t ∧ isW w = true ∧ fitsV v b.length 0 w = true ∧ w = leastW (fitsV v b.length 0) := by
  obtain ⟨v, e, r⟩ := build_law f t h
  obtain ⟨hw, hf⟩ := leastW_is (fitsV v (Bd.calls f t Bd.new).b.length 0) (fitsV8 r.fit 0)
  exact ⟨_, v, _, by simp only [bBuild, Bd.finish, e, docB], r, isW_nat.2 hw, hf, rfl⟩
theorem last_two (y : List UInt8) (a b : UInt8) : (y ++ [a, b]).length = y.length + 2 ∧ (y ++ [a, b]).getD ((y ++ [a, b]).length - 1) 0 = b ∧ (y ++ [a, b]).getD ((y ++ [a, b]).length - 2) 0 = a := by
  refine ⟨by simp, ?_, ?_⟩
  · rw [List.getD_eq_getElem?_getD, List.getElem?_append_right (by simp)]
    simp
  · rw [List.getD_eq_getElem?_getD, List.getElem?_append_right (by simp)]
    simp
/-- The width that a value has where an element's width is w. -/
def ownW (w : Nat) (v : Bv) : Nat := if inl v.t = true then w else v.w
theorem root_doc {x b : List UInt8} {v : Bv} {w : Nat} (hx : x.length % 8 = 0) (hw : isW w = true) (ht : legalT v.t = true) (hv : isW v.w = true) :
    rootE (x ++ docB b v w) = 0 ∧ rootR (x ++ docB b v w) = (((x.length + (alignB w b).length : Nat) : Int), (w : Int), (v.t : Int), (ownW w v : Int)) := by
  obtain ⟨y, hy⟩ : ∃ y, x ++ (alignB w b ++ leBytes w (elemN w (alignB w b).length v)) = y := ⟨_, rfl⟩
  have hl : x ++ docB b v w = y ++ [bTag w v, UInt8.ofNat w] := by rw [← hy, docB]; simp only [List.append_assoc]
  have hn : y.length = x.length + (alignB w b).length + w := by rw [← hy]; simp only [List.length_append, leBytes_length]; omega
  obtain ⟨h1, h2, h3⟩ := last_two y (bTag w v) (UInt8.ofNat w)
  obtain ⟨_, ha, _⟩ := align_len hw b
  have how : isW (ownW w v) = true := by unfold ownW; split <;> assumption
  obtain ⟨t1, t2, t3⟩ := tag_is v.t (ownW w v) ht how
  have ht : bTag w v = UInt8.ofNat (4 * v.t + bCode (ownW w v)) := rfl
  rw [← ht] at t1 t2 t3
  have hwb : (UInt8.ofNat w).toNat = w := by
    rw [UInt8.toNat_ofNat']
    rcases isW_nat.1 hw with rfl | rfl | rfl | rfl <;> rfl
  have he : rootE (x ++ docB b v w) = 0 := by
    rw [hl]
    unfold rootE
    rw [h2, h3, hwb, t3, if_neg, if_neg (by simp), if_neg]
    · rw [h1, hn]
      rcases isW_nat.1 hw with rfl | rfl | rfl | rfl <;> omega
    · rw [h1, hn, hw]
      rcases isW_nat.1 hw with rfl | rfl | rfl | rfl <;> simp <;> omega
  refine ⟨he, ?_⟩
  unfold rootR
  rw [if_pos he, hl, h2, h3, hwb, t1, t2, h1, hn]
  simp only [Prod.mk.injEq, and_true]
  omega
end Go.Proofs.YtjhigmgkmmjlfaaGreat
