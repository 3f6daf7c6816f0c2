/-
  strings.Builder, from the library: WriteString and String.
  Package build: the names of the keys stay known. No program in sight.
  Package build: entries in turn, and places of keys that ascend. No program in sight.
  Package build: EndMap.
-/
import Derived.Test.YtfoifdoaleaekaaGreatQf39
import Derived.Test.YtfoifdoaleaekaaGreatQf38
import Derived.Shelf.Strings.BuilderK
import Derived.Ground.NamesProg
namespace Go.Proofs.YtfoifdoaleaekaaGreat
open Go.Shelf Go.RowKit Go.Acc
def sbw_ren : Go.Shelf.Ren := ⟨fun | 166 => 177 | 240 => 223 | 276 => 249 | n => n, fun | 0 => 0 | 3 => 3 | 4 => 4 | 9 => 9 | 20 => 20 | 5 => 5 | 37 => 29 | 70 => 231 | 72 => 233 | 75 => 235 | 80 => 239 | 164 => 300 | n => n, fun | n => n⟩
theorem sbw : Go.Proofs.Lays.n166 Tryz.prog sbw_ren := {
  mixed := by kernel_rfl
  f166 := Tryz.func177.trans (congrArg some (by kernel_rfl))
  f240 := Tryz.func223.trans (congrArg some (by kernel_rfl))
  f276 := Tryz.func249.trans (congrArg some (by kernel_rfl))
  t0 := Tryz.underlying0
  a0 := Tryz.isAgg0
  z0 := Tryz.sizeOf0
  v0 := Tryz.zeroValue0
  t3 := Tryz.underlying3
  a3 := Tryz.isAgg3
  z3 := Tryz.sizeOf3
  v3 := Tryz.zeroValue3
  t4 := Tryz.underlying4
  a4 := Tryz.isAgg4
  z4 := Tryz.sizeOf4
  v4 := Tryz.zeroValue4
  t9 := Tryz.underlying9
  a9 := Tryz.isAgg9
  z9 := Tryz.sizeOf9
  v9 := Tryz.zeroValue9
  t20 := Tryz.underlying20
  a20 := Tryz.isAgg20
  z20 := Tryz.sizeOf20
  v20 := Tryz.zeroValue20
  t37 := Tryz.underlying29
  a37 := Tryz.isAgg29
  z37 := Tryz.sizeOf29
  v37 := Tryz.zeroValue29
  t70 := Tryz.underlying231
  a70 := Tryz.isAgg231
  z70 := Tryz.sizeOf231
  v70 := Tryz.zeroValue231
  t72 := Tryz.underlying233
  a72 := Tryz.isAgg233
  z72 := Tryz.sizeOf233
  v72 := Tryz.zeroValue233
  t75 := Tryz.underlying235
  a75 := Tryz.isAgg235
  z75 := Tryz.sizeOf235
  v75 := Tryz.zeroValue235
  t164 := Tryz.underlying300
  a164 := Tryz.isAgg300
  z164 := Tryz.sizeOf300
  v164 := Tryz.zeroValue300 }
def sbs_ren : Go.Shelf.Ren := ⟨fun | 169 => 179 | n => n, fun | 0 => 0 | 3 => 3 | 9 => 9 | 5 => 5 | 37 => 29 | 70 => 231 | 72 => 233 | 127 => 274 | n => n, fun | n => n⟩
theorem sbs : Go.Proofs.Lays.n169 Tryz.prog sbs_ren := {
  mixed := by kernel_rfl
  f169 := Tryz.func179.trans (congrArg some (by kernel_rfl))
  t0 := Tryz.underlying0
  a0 := Tryz.isAgg0
  z0 := Tryz.sizeOf0
  v0 := Tryz.zeroValue0
  t3 := Tryz.underlying3
  a3 := Tryz.isAgg3
  z3 := Tryz.sizeOf3
  v3 := Tryz.zeroValue3
  t9 := Tryz.underlying9
  a9 := Tryz.isAgg9
  z9 := Tryz.sizeOf9
  v9 := Tryz.zeroValue9
  t37 := Tryz.underlying29
  a37 := Tryz.isAgg29
  z37 := Tryz.sizeOf29
  v37 := Tryz.zeroValue29
  t70 := Tryz.underlying231
  a70 := Tryz.isAgg231
  z70 := Tryz.sizeOf231
  v70 := Tryz.zeroValue231
  t72 := Tryz.underlying233
  a72 := Tryz.isAgg233
  z72 := Tryz.sizeOf233
  v72 := Tryz.zeroValue233
  t127 := Tryz.underlying274
  a127 := Tryz.isAgg274
  z127 := Tryz.sizeOf274
  v127 := Tryz.zeroValue274 }
theorem sbw_extra : Builder.Extra Tryz.prog sbw_ren where
  sizeBuilder := by kernel_rfl
  liesBuilder := by kernel_rfl
  t5 := Tryz.underlying5
  a5 := Tryz.isAgg5
  z5 := Tryz.sizeOf5
  v5 := Tryz.zeroValue5
  infoByte := by kernel_rfl
  cellsByte := by kernel_rfl
  sizeByte := by kernel_rfl
  neB5 := by decide
theorem sbs_extra : Builder.Extra Tryz.prog sbs_ren where
  sizeBuilder := by kernel_rfl
  liesBuilder := by kernel_rfl
  t5 := Tryz.underlying5
  a5 := Tryz.isAgg5
  z5 := Tryz.sizeOf5
  v5 := Tryz.zeroValue5
  infoByte := by kernel_rfl
  cellsByte := by kernel_rfl
  sizeByte := by kernel_rfl
  neB5 := by decide
def SbO (w : World) (B b : Nat) (l : List UInt8) : Prop := Go.Lib.IsBuilderF 233 5 B b (Go.Lib.byteCells l) w
theorem wstr_spec (B b : Nat) (l s : List UInt8) (w : World) (h : SbO w B b l) (hl : l.length + s.length ≤ 1048576) (hB : B ≤ w.heap.size) :
    Calls Tryz.prog 177 #[.pointer (some ⟨b, 0, none⟩), .string ⟨s.toArray⟩] w fun e w' => (∃ x, e = .returned x) ∧ SbO w' B b (l ++ s) ∧ Below B w w' := by
  refine (Any.Builder_WriteString_k sbw sbw_extra B b (Go.Lib.byteCells l) ⟨s.toArray⟩ w h ?_ hB).mono ?_
  · show _ + s.toArray.size ≤ _
    rw [Go.Lib.byteCells_length, List.size_toArray]
    omega
  · rintro e w' ⟨rfl, h1, h2, _⟩
    refine ⟨⟨_, rfl⟩, .inr ?_, h2⟩
    have e1 : Go.Lib.byteCells l ++ Go.Lib.strCells ⟨s.toArray⟩ = Go.Lib.byteCells (l ++ s) := by
      simp [Go.Lib.byteCells, Go.Lib.strCells]
    rw [← e1]
    exact h1
theorem bstring_spec (B b : Nat) (l : List UInt8) (w : World) (h : SbO w B b l) (hB : B ≤ w.heap.size) :
    Calls Tryz.prog 179 #[.pointer (some ⟨b, 0, none⟩)] w fun e w' => e = .returned (.string ⟨l.toArray⟩) ∧ Below B w w' := by
  refine (Any.Builder_String_any_k sbs sbs_extra B b l w h hB).mono ?_
  rintro e w' ⟨rfl, _, h2, _⟩
  exact ⟨rfl, h2⟩
theorem sb_new (w : World) : SbO (w.alloc (.cells #[.pointer none, .slice none 0 0] 233)) w.heap.size w.heap.size [] := Go.Lib.IsBuilderF.of (Go.Lib.fresh_isBuilder 233 5 w)
end Go.Proofs.YtfoifdoaleaekaaGreat

namespace Go.Proofs.YtfoifdoaleaekaaGreat
open Go.Acc
structure NOk (b : Bd) : Prop where
  keys : ∀ s a, getP b.keys s = some a → b.names.find? (fun x => x.1 == a) = some (a, s)
  lt : ∀ x ∈ b.names, x.1 < b.b.length
structure NStep (b b' : Bd) : Prop where
  keep : ∀ a s, b.names.find? (fun x => x.1 == a) = some (a, s) → b'.names.find? (fun x => x.1 == a) = some (a, s)
  ok : NOk b'
theorem NStep.trans {a b c : Bd} (h : NStep a b) (h' : NStep b c) : NStep a c := ⟨fun x s e => h'.keep x s (h.keep x s e), h'.ok⟩
theorem NStep.same {b b' : Bd} (h : NOk b) (hk : b'.keys = b.keys) (hn : b'.names = b.names) (hl : b.b.length ≤ b'.b.length) : NStep b b' :=
  ⟨fun a s e => by rw [hn]; exact e, ⟨fun s a e => by rw [hk] at e; rw [hn]; exact h.keys s a e, fun x hx => by rw [hn] at hx; exact Nat.lt_of_lt_of_le (h.lt x hx) hl⟩⟩
theorem nok_new : NOk Bd.new := ⟨fun s a e => by simp [Bd.new, getP] at e, fun x hx => by simp [Bd.new] at hx⟩
theorem Step.len {b b' : Bd} (h : Step b b') : b.b.length ≤ b'.b.length := by
  obtain ⟨⟨m, e⟩, _⟩ := h
  rw [e, List.length_append]
  omega
theorem NOk.find_lt {b : Bd} (h : NOk b) {a : Nat} {s : List UInt8} (e : b.names.find? (fun x => x.1 == a) = some (a, s)) : a < b.b.length := h.lt _ (List.mem_of_find?_eq_some e)
def NamV (names : List (Nat × List UInt8)) (s : List UInt8) (v : Bv) : Prop := v.t = 4 ∧ names.find? (fun x => x.1 == v.n) = some (v.n, s)
theorem put_names (f : Nat) (s : List UInt8) (b : Bd) (h : NOk b) : NStep b (b.put f s).1 ∧ NamV (b.put f s).1.names s (b.put f s).2 := by
  unfold Bd.put
  split
  · next a ha =>
    split at ha
    · exact ⟨NStep.same h rfl rfl (Nat.le_refl _), rfl, h.keys s a ha⟩
    · cases ha
  · have hkeep : ∀ a s', b.names.find? (fun x => x.1 == a) = some (a, s') → ((b.b.length, s) :: b.names).find? (fun x => x.1 == a) = some (a, s') := by
      intro a s' e
      have hl := h.find_lt e
      rw [List.find?_cons]
      have e2 : (b.b.length == a) = false := beq_eq_false_iff_ne.mpr (by omega)
      simp only [e2]
      exact e
    have hnew : ((b.b.length, s) :: b.names).find? (fun x => x.1 == b.b.length) = some (b.b.length, s) := by simp
    refine ⟨⟨hkeep, ⟨fun k a e => ?_, fun x hx => ?_⟩⟩, rfl, hnew⟩
    · rcases getP_put e with e | ⟨rfl, rfl⟩
      · exact hkeep a k (h.keys k a e)
      · exact hnew
    · simp only [List.mem_cons] at hx
      simp only [List.length_append, List.length_singleton]
      rcases hx with rfl | hx
      · show b.b.length < b.b.length + s.length + 1
        omega
      · have := h.lt x hx
        omega
theorem puts_names (f : Nat) : ∀ (l : List (List UInt8)) (b : Bd), NOk b → NStep b (b.puts f l).1
  | [], _, h => NStep.same h rfl rfl (Nat.le_refl _)
  | s :: r, b, h => (put_names f s b h).1.trans (puts_names f r _ (put_names f s b h).1.ok)
theorem vec_names (t : Nat) (len tags : Bool) (l : List Bv) (b : Bd) (h : NOk b) : NStep b (b.vec t len tags l) := by
  obtain ⟨m, e⟩ := vecB_app t len tags l b.b
  exact NStep.same h rfl rfl (by show b.b.length ≤ (bVec t len tags l b.b).1.length; rw [e, List.length_append]; omega)
theorem leaf_names (f : Nat) {k : Int} (n : Int) (u : Nat) (s : List UInt8) (h1 : 1 ≤ k) (h2 : k ≤ 9) (b : Bd) (hg : Good b) (h : NOk b) : NStep b (b.leaf f k n u s) := by
  obtain ⟨_, _, s1, _⟩ := leaf_law f n u s [] [] h1 h2 b hg
  have hl := s1.len
  by_cases h5 : k = 5
  · subst h5
    have e : b.leaf f 5 n u s = b.key f s := by simp [Bd.leaf]
    rw [e]
    have h3 := (put_names f s b h).1
    exact ⟨h3.keep, h3.ok.1, h3.ok.2⟩
  · refine NStep.same h ?_ ?_ hl
    · unfold Bd.leaf
      simp only [if_neg h5]
      repeat' (split; try rfl)
      all_goals first | rfl | (unfold Bd.str; simp only []; split <;> rfl)
    · unfold Bd.leaf
      simp only [if_neg h5]
      repeat' (split; try rfl)
      all_goals first | rfl | (unfold Bd.str; simp only []; split <;> rfl)
theorem flat_names (f : Nat) (k : Int) (c : List Tr) (b : Bd) (h : NOk b) : NStep b (b.flat f k c) := by
  unfold Bd.flat
  repeat' split
  all_goals first
    | exact vec_names _ _ _ _ _ h
    | exact (puts_names f _ b h).trans (vec_names _ _ _ _ _ (puts_names f _ b h).ok)
theorem callsL_names (f : Nat) : ∀ (c : List Tr), (∀ t ∈ c, Does f t) → (∀ t ∈ c, ∀ b, Good b → NOk b → NStep b (Bd.calls f t b)) → ∀ b, Good b → NOk b → NStep b (Bd.callsL f c b)
  | [], _, _, b, _, h => by rw [Bd.callsL]; exact NStep.same h rfl rfl (Nat.le_refl _)
  | t :: r, hd, hc, b, hg, h => by
    obtain ⟨v, e1, s1, r1⟩ := hd t (by simp) b hg
    have h1 := hc t (by simp) b hg h
    rw [Bd.callsL]
    exact h1.trans (callsL_names f r (fun t ht => hd t (by simp [ht])) (fun t ht => hc t (by simp [ht])) _ s1.2 h1.ok)
theorem callsM_names (f : Nat) : ∀ (c : List Tr) (ks : List (List UInt8)), ks.length = c.length → (∀ t ∈ c, Does f t) → (∀ t ∈ c, ∀ b, Good b → NOk b → NStep b (Bd.calls f t b)) → ∀ b, Good b → NOk b →
    NStep b (Bd.callsM f ks c b) ∧ ∃ kvs vs, (Bd.callsM f ks c b).s = b.s ++ both kvs vs ∧ kvs.length = ks.length ∧ vs.length = c.length ∧ ∀ (i : Nat) s v, ks[i]? = some s → kvs[i]? = some v → NamV (Bd.callsM f ks c b).names s v
  | [], ks, hk, _, _, b, _, h => by
    obtain rfl : ks = [] := List.eq_nil_of_length_eq_zero hk
    rw [Bd.callsM]
    exact ⟨NStep.same h rfl rfl (Nat.le_refl _), [], [], by simp [both], rfl, rfl, fun i s v h => by simp at h⟩
  | t :: r, [], hk, _, _, _, _, _ => by simp at hk
  | t :: r, s :: ks, hk, hd, hc, b, hg, h => by
    obtain ⟨⟨hp1, hp2⟩, hp3, hp4⟩ := put_law f s b hg
    have e0 : (b.key f s).s = b.s ++ [(b.put f s).2] := by simp [Bd.key, Bd.push, hp4]
    have g0 : Good (b.key f s) := (key_law f s b hg).elim fun _ h => h.2.1.2
    obtain ⟨n0, k0⟩ := put_names f s b h
    have n0' : NStep b (b.key f s) := ⟨n0.keep, n0.ok.1, n0.ok.2⟩
    obtain ⟨v, e1, s1, r1⟩ := hd t (by simp) (b.key f s) g0
    have n1 := hc t (by simp) (b.key f s) g0 n0'.ok
    obtain ⟨n2, kvs, vs, e2, l2, l3, k2⟩ := callsM_names f r ks (by simpa using hk) (fun t ht => hd t (by simp [ht])) (fun t ht => hc t (by simp [ht])) (Bd.calls f t (b.key f s)) s1.2 n1.ok
    have ee : Bd.callsM f (s :: ks) (t :: r) b = Bd.callsM f ks r (Bd.calls f t (b.key f s)) := by rw [Bd.callsM]; rfl
    rw [ee]
    refine ⟨(n0'.trans n1).trans n2, (b.put f s).2 :: kvs, v :: vs, by rw [e2, e1, e0]; simp [both], by simp [l2], by simp [l3], fun i x v' hx hv => ?_⟩
    cases i with
    | zero =>
      simp only [List.getElem?_cons_zero, Option.some.injEq] at hx hv
      subst hx hv
      exact ⟨k0.1, (n1.trans n2).keep _ _ k0.2⟩
    | succ i =>
      simp only [List.getElem?_cons_succ] at hx hv
      exact k2 i x v' hx hv
theorem endMap_names (f : Nat) (ks : List (List UInt8)) (start : Nat) (b : Bd) (h : NOk b) (hl : b.b.length ≤ (b.endMap f ks start).b.length) : NStep b (b.endMap f ks start) := by
  refine NStep.same h ?_ ?_ hl
  · unfold Bd.endMap
    simp only []
    split <;> rfl
  · unfold Bd.endMap
    simp only []
    split <;> rfl
theorem calls_names (f : Nat) (t : Tr) (h : Ok t) : ∀ b, Good b → NOk b → NStep b (Bd.calls f t b) := by
  induction h with
  | leaf n u s ks c h1 h2 =>
    intro b hg hn
    rename_i k
    have e : Bd.calls f (.mk k n u s ks c) b = b.leaf f k n u s := by
      rw [Bd.calls, if_neg (by omega), if_neg (by omega), if_pos h2]
    rw [e]
    exact leaf_names f n u s h1 h2 b hg hn
  | flat n u s ks c h1 h2 =>
    intro b hg hn
    rename_i k
    have e : Bd.calls f (.mk k n u s ks c) b = b.flat f k c := by
      rw [Bd.calls, if_neg (by omega), if_neg (by omega), if_neg (by omega)]
    rw [e]
    exact flat_names f k c b hn
  | vec n u s ks hd ih =>
    intro b hg hn
    rename_i c
    have e : Bd.calls f (.mk 10 n u s ks c) b = (Bd.callsL f c b).endVec b.s.length := by rw [Bd.calls, if_pos rfl]
    rw [e]
    have h1 := callsL_names f c (fun t ht => calls_law f t (hd t ht)) ih b hg hn
    have h2 : NOk { Bd.callsL f c b with s := (Bd.callsL f c b).s.take b.s.length } := ⟨h1.ok.1, h1.ok.2⟩
    have h3 := vec_names 10 true true ((Bd.callsL f c b).s.drop b.s.length) _ h2
    exact h1.trans ⟨h3.keep, h3.ok⟩
  | map n u s hl h0 hd ih =>
    intro b hg hn
    rename_i c ks
    have e : Bd.calls f (.mk 17 n u s ks c) b = (Bd.callsM f ks c b).endMap f ks b.s.length := by
      rw [Bd.calls, if_neg (by omega), if_pos rfl]
    obtain ⟨kvs, vs, e1, l1, s1, k1, r1⟩ := callsM_law f c ks hl (fun t ht => calls_law f t (hd t ht)) b hg
    obtain ⟨_, _, _, _, s2, _⟩ := endMap_law f ks b.s (Bd.callsM f ks c b) kvs vs s1.2 e1 (by rw [k1.1, l1, hl]) h0 k1 (reps_fit l1 r1)
    have h1 := (callsM_names f c ks hl (fun t ht => calls_law f t (hd t ht)) ih b hg hn).1
    rw [e]
    exact h1.trans (endMap_names f ks b.s.length _ h1.ok s2.len)
end Go.Proofs.YtfoifdoaleaekaaGreat

namespace Go.Proofs.YtfoifdoaleaekaaGreat
open Go.Acc
theorem ps_range {n : Nat} {ps : List Nat} (l : List (List UInt8)) (hl : l.length = n) (hp : ps.Perm (List.range n)) (ha : ∀ (i j : Nat) (hi : i < ps.length) (hj : j < ps.length), i < j → l.getD ps[i] [] < l.getD ps[j] []) (hs : l.Pairwise (· < ·)) : ps = List.range n := by
  have hm : ∀ p ∈ ps, p < n := fun p h => List.mem_range.1 (hp.mem_iff.1 h)
  have hg : ∀ p (h : p < n), l.getD p [] = l[p] := fun p h => by rw [List.getD_eq_getElem?_getD, List.getElem?_eq_getElem]; rfl
  have h1 : ps.Pairwise (· < ·) := by
    rw [List.pairwise_iff_getElem]
    intro i j hi hj hij
    have h2 := ha i j hi hj hij
    have hpi := hm ps[i] (List.getElem_mem _)
    have hpj := hm ps[j] (List.getElem_mem _)
    rw [hg _ hpi, hg _ hpj] at h2
    rcases Nat.lt_trichotomy ps[i] ps[j] with h3 | h3 | h3
    · exact h3
    · rw [getElem_congr_idx (c := l) h3] at h2
      exact absurd h2 (List.lt_irrefl _)
    · rw [List.pairwise_iff_getElem] at hs
      exact absurd h2 (List.lt_asymm (hs _ _ (by omega) (by omega) h3))
  exact hp.eq_of_pairwise (fun a b _ _ h h' => absurd h (Nat.lt_asymm h')) h1 List.pairwise_lt_range
theorem both_get : ∀ (ks vs : List Bv) (i : Nat), ks.length = vs.length → (both ks vs)[2 * i]? = ks[i]? ∧ (both ks vs)[2 * i + 1]? = vs[i]?
  | [], [], i, _ => ⟨by simp [both], by simp [both]⟩
  | [], _ :: _, _, h => by simp at h
  | _ :: _, [], _, h => by simp at h
  | k :: r, v :: q, 0, _ => ⟨rfl, rfl⟩
  | k :: r, v :: q, i + 1, h => by
    obtain ⟨h1, h2⟩ := both_get r q i (by simpa using h)
    have e1 : 2 * (i + 1) = 2 * i + 1 + 1 := by omega
    have e2 : 2 * (i + 1) + 1 = 2 * i + 1 + 1 + 1 := by omega
    rw [e2, e1]
    simp only [both, List.getElem?_cons_succ]
    exact ⟨h1, h2⟩
theorem both_len : ∀ (ks vs : List Bv), ks.length = vs.length → (both ks vs).length = 2 * ks.length
  | [], [], _ => rfl
  | [], _ :: _, h => by simp at h
  | _ :: _, [], h => by simp at h
  | k :: r, v :: q, h => by
    have := both_len r q (by simpa using h)
    simp only [both, List.length_cons, this]
    omega
theorem pick_both (ks vs : List Bv) (h : ks.length = vs.length) : (List.range ks.length).map (fun p => (both ks vs).getD (2 * p + 0) ⟨0, 0, 0⟩) = ks ∧ (List.range ks.length).map (fun p => (both ks vs).getD (2 * p + 1) ⟨0, 0, 0⟩) = vs := by
  refine ⟨?_, ?_⟩
  · apply List.ext_getElem (by simp)
    intro i h1 h2
    rw [List.getElem_map, List.getElem_range, List.getD_eq_getElem?_getD, Nat.add_zero, (both_get ks vs i h).1, List.getElem?_eq_getElem h2]
    rfl
  · apply List.ext_getElem (by simp [h])
    intro i h1 h2
    rw [List.getElem_map, List.getElem_range, List.getD_eq_getElem?_getD, (both_get ks vs i h).2, List.getElem?_eq_getElem h2]
    rfl
theorem listOf_app (a b : List (List UInt8)) : listOf (a ++ b) = listOf a ++ listOf b := by simp [listOf]
theorem listOf_one (s : List UInt8) : listOf [s] = s ++ [0] := by simp [listOf]
theorem listOf_len : ∀ (l : List (List UInt8)), (listOf l).length ≤ keysCost l
  | [] => by simp [listOf]
  | s :: r => by
    have := listOf_len r
    simp only [listOf, List.flatMap_cons, List.length_append, List.length_singleton, keysCost] at this ⊢
    omega
end Go.Proofs.YtfoifdoaleaekaaGreat

namespace Go.Proofs.YtfoifdoaleaekaaGreat
open Go.RowKit Go.Acc
structure EmOk (keys : List (List UInt8)) (kvs vs : List Bv) (k : Nat) (b : Bd) : Prop where
  cut : b.s.drop k = both kvs vs
  kl : kvs.length = keys.length
  vl : vs.length = keys.length
  named : ∀ (i : Nat) s v, keys[i]? = some s → kvs[i]? = some v → NamV b.names s v
  nlt : ∀ x ∈ b.names, x.1 < 18446744073709551616
  up : keys.Pairwise (· < ·)
  hk : k ≤ b.s.length
  hs : b.s.length ≤ 65536
  hks : k < 65536
  len : (listOf keys).length ≤ 1048576
  tab : TabOk (listOf keys) kvs vs { b with s := b.s.take k }
theorem EmOk.namedV {keys : List (List UInt8)} {kvs vs : List Bv} {k : Nat} {b : Bd} (h : EmOk keys kvs vs k b) : NamedV b.names keys (b.s.drop k) := by
  have hl : kvs.length = vs.length := h.kl.trans h.vl.symm
  refine ⟨by rw [h.cut, both_len _ _ hl, h.kl], fun i s v hs hv => ?_⟩
  rw [h.cut, (both_get kvs vs i hl).1] at hv
  obtain ⟨h1, h2⟩ := h.named i s v hs hv
  exact ⟨h1, h2, h.nlt _ (List.mem_of_find?_eq_some h2)⟩
structure EmC (M : Bp) (A : Option Addr) (m c : Nat) (vl : List Bv) (AN : Option Addr) (nk : Nat) (keys : List (List UInt8)) (AP : Option Addr) (cP bx bl bp : Nat) (w : World) (o : Nat → Nat) : Prop where
  x : Blk w bx 122 #[.pointer (some ⟨M.β, 0, none⟩)]
  l : Blk w bl 160 #[.slice A m c]
  p : Blk w bp 61 #[.slice AP nk cP]
  ox : o bx = 0
  ol : o bl = 0
  op : o bp = 0
  iv : IsV w A m (vl.map vv)
  is_ : IsS w AN nk keys
  ip : Is inc w AP nk (List.range nk)
  oa : ∀ ad, A = some ad → ad.block < w.heap.size ∧ o ad.block = 0
  on : ∀ ad, AN = some ad → ad.block < w.heap.size ∧ o ad.block = 0
  oq : ∀ ad, AP = some ad → ad.block < w.heap.size ∧ o ad.block = 0
section
variable {M : Bp} {A : Option Addr} {m c : Nat} {l : List Bv} {AN : Option Addr} {nk : Nat} {keys : List (List UInt8)} {AP : Option Addr} {cP bx bl bp : Nat} {w w' : World} {o o' : Nat → Nat}
theorem EmC.to_ {I : Nat → Prop} (h : EmC M A m c l AN nk keys AP cP bx bl bp w o) (ht : To I w o w' o') (h0 : ¬ I 0) : EmC M A m c l AN nk keys AP cP bx bl bp w' o' := by
  have hk : ∀ {B : Option Addr}, (∀ ad, B = some ad → ad.block < w.heap.size ∧ o ad.block = 0) → ∀ ad, B = some ad → ad.block < w'.heap.size ∧ o' ad.block = 0 := fun hB ad e => ⟨Nat.lt_of_lt_of_le (hB ad e).1 ht.size, (ht.ow _ (hB ad e).1).trans (hB ad e).2⟩
  exact ⟨h.x.to_ ht (by rw [h.ox]; exact h0), h.l.to_ ht (by rw [h.ol]; exact h0), h.p.to_ ht (by rw [h.op]; exact h0), (ht.ow _ h.x.lt).trans h.ox, (ht.ow _ h.l.lt).trans h.ol, (ht.ow _ h.p.lt).trans h.op,
    h.iv.fr ht.fr (fun ad e => by rw [(h.oa ad e).2]; exact h0), h.is_.fr ht.fr (fun ad e => by rw [(h.on ad e).2]; exact h0), h.ip.fr ht.fr (fun ad e => by rw [(h.oq ad e).2]; exact h0), hk h.oa, hk h.on, hk h.oq⟩
theorem EmC.cells (h : EmC M A m c l AN nk keys AP cP bx bl bp w o) : w.cell? ⟨bx, 0, none⟩ = some (.pointer (some ⟨M.β, 0, none⟩)) ∧ w.cell? ⟨bl, 0, none⟩ = some (.slice A m c) ∧ w.cell? ⟨bp, 0, none⟩ = some (.slice AP nk cP) := ⟨h.x.cell 0, h.l.cell 0, h.p.cell 0⟩
theorem EmC.pure (h : EmC M A m c l AN nk keys AP cP bx bl bp w o) (hb : Below w.heap.size w w') : EmC M A m c l AN nk keys AP cP bx bl bp w' (newO o w.heap.size 0) := h.to_ (To.fresh (fun _ => False) hb o 0) id
end
set_option maxRecDepth 100000 in
set_option maxHeartbeats 4000000 in
theorem endmap1_spec (M : Bp) (fl : Int) (b : Bd) (keys : List (List UInt8)) (kvs vs : List Bv) (k bx bk : Nat) (w : World) (o : Nat → Nat) (h : BM M fl w o b) (hx : Blk w bx 122 #[.pointer (some ⟨M.β, 0, none⟩)]) (hb : Blk w bk 3 #[.int .i64 (k : Int)]) (hox : o bx = 0) (hE : EmOk keys kvs vs k b) :
    Calls Tryz.prog 174 #[.pointer (some ⟨bx, 0, none⟩), .pointer (some ⟨bk, 0, none⟩)] w (BTo M fl (Bd.table (Go.Proofs.YtfoifdoaleaekaaGreat.bits fl) (listOf keys) kvs vs { b with s := b.s.take k }) w o) := by
  have HM := Lib.hid h
  have HX := Lib.hid hx
  have HOX := Lib.hid hox
  have HE := Lib.hid hE
  obtain ⟨m, hm⟩ : ∃ m, (b.s.drop k).length = m := ⟨_, rfl⟩
  obtain ⟨nk, hnk⟩ : ∃ n, keys.length = n := ⟨_, rfl⟩
  have HMM := Lib.hid hm
  have HNK := Lib.hid hnk
  have hmk : m ≤ b.s.length ∧ b.s.length - m = k := by have h1 := hE.hk; rw [List.length_drop] at hm; omega
  have HMK := Lib.hid hmk
  have HM2 := Lib.hid (show m = 2 * nk by have h1 := both_len kvs vs (hE.kl.trans hE.vl.symm); rw [← hE.cut, hm, hE.kl, hnk] at h1; exact h1)
  have HML := Lib.hid (show m ≤ 65536 by have := hE.hs; omega)
  have x0 : w.cell? ⟨bx, 0, none⟩ = some (.pointer (some ⟨M.β, 0, none⟩)) := hx.cell 0
  have x1 : w.cell? ⟨bk, 0, none⟩ = some (.int .i64 (k : Int)) := hb.cell 0
  clear h hx hb hox hE hm hmk hnk
  go_enter Tryz.func174, Tryz.ntmps174
  go_wp2_with fail
  go_at_call 170
  refine (cfrom_spec M fl b k _ o HM.out HE.out.hk).mono ?_
  rintro e w1 ⟨A, c, rfl, hO, hb⟩
  rw [HMM.out] at hO ⊢
  have hb2 := hb.alloc hb.size (.cells #[.slice A m c] 160)
  have HL2 := Lib.hid (Blk.new w1 160 #[.slice A m c])
  have HIV := Lib.hid (hO.is.pure ((Below.refl w1.heap.size w1).alloc (Nat.le_refl _) (.cells #[.slice A m c] 160)))
  have HAA := Lib.hid (show (∀ ad, A = some ad → ad.block < (w1.alloc (.cells #[.slice A m c] 160)).heap.size ∧ newO o w.heap.size 0 ad.block = 0) from fun ad e => ⟨by have h1 := (hO.addr ad e).2.2; rw [al_size]; omega, newO_new (hO.addr ad e).2.1⟩)
  have HM1 := Lib.hid (HM.out.fresh hb2 0)
  have HX1 := Lib.hid (HX.out.pure hb2)
  have HT1 := Lib.hid (To.fresh Bld hb2 o 0)
  have HOX1 := Lib.hid (show newO o w.heap.size 0 bx = 0 from (newO_old HX.out.lt).trans HOX.out)
  have HOL1 := Lib.hid (show newO o w.heap.size 0 w1.heap.size = 0 from newO_new hb.size)
  clear hO hb hb2 x0 x1
  go_upto_region 1 with fail
  generalize w1.alloc (.cells #[.slice A m c] 160) = w2 at HL2 HIV HAA HM1 HX1 HT1 ⊢
  generalize newO o w.heap.size 0 = o1 at HAA HM1 HT1 HOX1 HOL1
  generalize w1.heap.size = bl at HL2 HOL1 ⊢
  have x0 : w2.cell? ⟨bx, 0, none⟩ = some (.pointer (some ⟨M.β, 0, none⟩)) := HX1.out.cell 0
  have x2 : w2.cell? ⟨bl, 0, none⟩ = some (.slice A m c) := HL2.out.cell 0
  go_wp2_with fail
  go_at_call 175
  refine (named_spec M fl b A m c (b.s.drop k) keys _ o1 HM1.out HIV.out (by have := HML.out; omega) HE.out.namedV).mono ?_
  rintro e w3 ⟨AN, cN, rfl, hON, hb⟩
  rw [HNK.out] at hON ⊢
  have HM3 := Lib.hid (HM1.out.fresh hb 0)
  have HX3 := Lib.hid (HX1.out.pure hb)
  have HL3 := Lib.hid (HL2.out.pure hb)
  have HIV3 := Lib.hid (HIV.out.pure hb)
  have HAA3 := Lib.hid (show (∀ ad, A = some ad → ad.block < w3.heap.size ∧ newO o1 w2.heap.size 0 ad.block = 0) from fun ad e => ⟨Nat.lt_of_lt_of_le (HAA.out ad e).1 hb.size, (newO_old (HAA.out ad e).1).trans (HAA.out ad e).2⟩)
  have HAN3 := Lib.hid (show (∀ ad, AN = some ad → ad.block < w3.heap.size ∧ newO o1 w2.heap.size 0 ad.block = 0) from fun ad e => ⟨(hON.addr ad e).2.2, newO_new (hON.addr ad e).2.1⟩)
  have HON3 := Lib.hid hON.is
  have HT3 := Lib.hid (HT1.out.trans (To.fresh Bld hb o1 0))
  have HOX3 := Lib.hid (show newO o1 w2.heap.size 0 bx = 0 from (newO_old HX1.out.lt).trans HOX1.out)
  have HOL3 := Lib.hid (show newO o1 w2.heap.size 0 bl = 0 from (newO_old HL2.out.lt).trans HOL1.out)
  clear hON hb x0 x2
  generalize newO o1 w2.heap.size 0 = o3 at HM3 HAA3 HAN3 HT3 HOX3 HOL3
  go_wp2_with fail
  go_at_call 29
  refine (order_spec AN nk cN keys w3 HON3.out (fun ad e => (HAN3.out ad e).1) (by have h1 := HM2.out; have h2 := HML.out; omega) (HE.out.up.imp fun h e => by rw [e] at h; exact List.lt_irrefl _ h)).mono ?_
  rintro e w4 ⟨AP, cP, ps, rfl, hOP, hp, ha, hb⟩
  obtain rfl : ps = List.range nk := ps_range keys HNK.out (by rw [← HNK.out]; exact hp) ha HE.out.up
  rw [HNK.out] at hOP ⊢
  have hb2 := hb.alloc hb.size (.cells #[.slice AP nk cP] 61)
  have HC5 := Lib.hid (show EmC M A m c (b.s.drop k) AN nk keys AP cP bx bl w4.heap.size (w4.alloc (.cells #[.slice AP nk cP] 61)) (newO o3 w3.heap.size 0) from
    ⟨HX3.out.pure hb2, HL3.out.pure hb2, Blk.new _ _ _, (newO_old HX3.out.lt).trans HOX3.out, (newO_old HL3.out.lt).trans HOL3.out, newO_new hb.size, HIV3.out.pure hb2, HON3.out.pure hb2, hOP.is.pure ((Below.refl _ _).alloc (Nat.le_refl _) _),
      fun ad e => ⟨Nat.lt_of_lt_of_le (HAA3.out ad e).1 hb2.size, (newO_old (HAA3.out ad e).1).trans (HAA3.out ad e).2⟩, fun ad e => ⟨Nat.lt_of_lt_of_le (HAN3.out ad e).1 hb2.size, (newO_old (HAN3.out ad e).1).trans (HAN3.out ad e).2⟩, fun ad e => ⟨by have h1 := (hOP.addr ad e).2.2; rw [al_size]; omega, newO_new (hOP.addr ad e).2.1⟩⟩)
  have HM5 := Lib.hid (HM3.out.fresh hb2 0)
  have HT5 := Lib.hid (HT3.out.trans (To.fresh Bld hb2 o3 0))
  clear hb hOP hp ha hb2
  go_upto_region 3 with fail
  generalize w4.alloc (.cells #[.slice AP nk cP] 61) = w5 at HC5 HM5 HT5 ⊢
  generalize newO o3 w3.heap.size 0 = o5 at HC5 HM5 HT5
  generalize w4.heap.size = bp at HC5 ⊢
  obtain ⟨x0, x1, x2⟩ := HC5.out.cells
  go_wp2_with fail
  go_at_call 127
  refine (fail_ok HM5.out).mono ?_
  rintro e w6 ⟨rfl, o6, hM6, hT6⟩
  have HM6 := Lib.hid hM6
  have HC6 := Lib.hid (HC5.out.to_ hT6 bld_0)
  have HT6 := Lib.hid (HT5.out.trans hT6)
  clear hM6 hT6 x0 x1 x2
  obtain ⟨x0, x1, x2⟩ := HC6.out.cells
  obtain ⟨c0, c1, c2, c9, _⟩ := HM6.out.head.cells
  go_wp2_with fail
  go_region_held3 (fun w' => w'.cell? ⟨bx, 0, none⟩ = some (.pointer (some ⟨M.β, 0, none⟩)) ∧ w'.cell? ⟨M.β, 1, none⟩ = some (.pointer (some ⟨M.sb, 0, none⟩)) ∧ w'.cell? ⟨bl, 0, none⟩ = some (.slice A m c)) (first | with_reducible exact ⟨x0, c1, x1⟩ | with_reducible exact ⟨kdrew x0, kdrew c1, kdrew x1⟩ | with_reducible exact ⟨y0, d1, y1⟩) (first | (go_at_call 171; (with_reducible refine (spop_is M.sb m b.s _ o6 HM6.out.drew.stk HMK.out.1 HML.out).mono ?_); rintro e w7 ⟨⟨A7, n7, c7, rfl⟩, o7, hS7, hT7⟩; have hT7' := hT7.from_drew; have hC7 := HC6.out.to_ hT7' (by omega); obtain ⟨y0, y1, _⟩ := hC7.cells; have hM7 := HM6.out.stk_ hT7' hS7; have d1 := hM7.head.cells.2.1; have HM7 := Lib.hid hM7; have HC7 := Lib.hid hC7; have HT7 := Lib.hid (HT6.out.trans (hT7'.mono fun _ h => bld_3 h)); clear hS7 hT7 hT7' hC7 hM7))
  clear x0 x1 x2 c0 c1 c2 c9 y0 y1 d1
  rw [HMK.out.2] at HM7
  have hal := (Below.refl w7.heap.size w7).alloc (Nat.le_refl _) (.cells #[.pointer none, .slice none 0 0] 233)
  have HS8 := Lib.hid (sb_new w7)
  have HB8 := Lib.hid hal
  clear hal
  obtain ⟨x0, x1, x2⟩ := HC7.out.cells
  go_upto_region 8 with fail
  generalize w7.alloc (.cells #[.pointer none, .slice none 0 0] 233) = w8 at HS8 HB8 ⊢
  obtain ⟨x0, x1, x2⟩ := (HC7.out.pure HB8.out).cells
  generalize hbb : w7.heap.size = bb at HS8 ⊢
  have HBB := Lib.hid hbb
  have hnk65 : nk ≤ 65536 := by have h1 := HM2.out; have h2 := HML.out; omega
  clear hbb
  go_wp2_with fail
  go_loopw [43] (fun u wr => ∃ j : Nat, j ≤ nk ∧ u = .int .i64 (j : Int) ∧ SbO wr bb bb (listOf (keys.take j)) ∧ Below w7.heap.size w7 wr) (fun u _ => nk - (intOf u).toNat)
  case atStart => exact ⟨0, Nat.zero_le _, rfl, HS8.out, HB8.out⟩
  case round =>
    obtain ⟨j, hj, rfl, hsb, hbr⟩ := hrel
    have HSB := Lib.hid hsb
    have HBR := Lib.hid hbr
    have HCR := Lib.hid (HC7.out.pure hbr)
    clear hsb hbr x0 x1 x2
    obtain ⟨x0, x1, x2⟩ := HCR.out.cells
    by_cases hlt : j < nk
    · obtain ⟨g1, o1', e1, hk1, y0⟩ := isi_at HCR.out.ip hlt
      rw [List.getElem_range] at y0
      obtain ⟨g2, o2', e2, hk2, y1⟩ := iss_at HCR.out.is_ hlt
      obtain ⟨s, hs⟩ : ∃ s, keys[j] = s := ⟨_, rfl⟩
      rw [hs] at y1
      have HT := Lib.hid (show listOf (keys.take (j + 1)) = listOf (keys.take j) ++ (s ++ [0]) by rw [List.take_succ_eq_append_getElem hk2, hs, listOf_app, listOf_one])
      have hll : (listOf (keys.take j)).length + (s ++ [0]).length ≤ 1048576 := by
        have h1 := HE.out.len
        rw [← List.take_append_drop (j + 1) keys, listOf_app, HT.out, List.length_append, List.length_append] at h1
        omega
      have HLL := Lib.hid hll
      have hsl : s.length ≤ 1048576 := by rw [List.length_append] at hll; omega
      have hj0 : (0 : Int) ≤ (j : Int) := by omega
      have hjn : (j : Int) < (nk : Int) := by omega
      have HEE := Lib.hid (And.intro e1 e2)
      rw [e1, e2]
      clear hs hk1 hk2 e1 e2 hll
      go_wp2_with fail
      go_at_call 177
      refine (wstr_spec bb bb (listOf (keys.take j)) (s ++ [0]) wr HSB.out HLL.out (by rw [← HBB.out]; exact HBR.out.size)).mono ?_
      rintro e w9 ⟨⟨x, rfl⟩, hs9, hb9⟩
      have HS9 := Lib.hid hs9
      have HB9 := Lib.hid (show Below w7.heap.size w7 w9 from HBR.out.trans (by rw [HBB.out]; exact hb9))
      clear hs9 hb9
      go_wp2_with fail
      go_roundw
      case rel => exact ⟨j + 1, by omega, by go_num, by rw [HT.out]; exact HS9.out, HB9.out⟩
      case measure => simp [intOf]; omega
    · obtain rfl : j = nk := by omega
      have HKT := Lib.hid (show keys.take j = keys from List.take_of_length_le (by rw [HNK.out]; exact Nat.le_refl _))
      rw [HKT.out] at HSB
      have hnb := HBR.out.size
      have HSBD := Lib.hid (show SbO wr.drew bb bb (listOf keys) from HSB.out)
      have HBT := Lib.hid (show ∀ wa, Below bb wr.drew wa → Below w7.heap.size w7 wa from fun wa h => HBR.out.drew.trans (by rw [HBB.out]; exact h))
      have HPK := Lib.hid (show (List.range j).map (pickV (b.s.drop k) 0) = kvs ∧ (List.range j).map (pickV (b.s.drop k) 1) = vs by
        have h1 := pick_both kvs vs (HE.out.kl.trans HE.out.vl.symm)
        rw [HE.out.kl, HNK.out] at h1
        rw [HE.out.cut]
        exact h1)
      have HP0 := Lib.hid (show ∀ W O, EmC M A m c (b.s.drop k) AN j keys AP cP bx bl bp W O → Calls Tryz.prog 176 #[.int .i64 0, .pointer (some ⟨bp, 0, none⟩), .pointer (some ⟨bl, 0, none⟩)] W (ValsW W j kvs) from fun W O h => by
        have h1 := esort_spec bp bl 0 AP j cP (List.range j) A m c (b.s.drop k) W h.p h.l h.ip h.iv (by omega) (by omega) (fun p hp => by have h2 := List.mem_range.1 hp; have h3 := HM2.out; omega) (by have := HML.out; omega)
        rw [HPK.out.1] at h1
        exact h1)
      have HP1 := Lib.hid (show ∀ W O, EmC M A m c (b.s.drop k) AN j keys AP cP bx bl bp W O → Calls Tryz.prog 176 #[.int .i64 1, .pointer (some ⟨bp, 0, none⟩), .pointer (some ⟨bl, 0, none⟩)] W (ValsW W j vs) from fun W O h => by
        have h1 := esort_spec bp bl 1 AP j cP (List.range j) A m c (b.s.drop k) W h.p h.l h.ip h.iv (by omega) (by omega) (fun p hp => by have h2 := List.mem_range.1 hp; have h3 := HM2.out; omega) (by have := HML.out; omega)
        rw [HPK.out.2] at h1
        exact h1)
      have HSZ := Lib.hid (show bb ≤ wr.drew.heap.size by rw [← HBB.out]; exact hnb)
      clear x1 x2
      go_wp2_with fail
      go_region_held3 (fun w' => w'.cell? ⟨bx, 0, none⟩ = some (.pointer (some ⟨M.β, 0, none⟩))) (first | with_reducible exact x0 | with_reducible exact kdrew x0 | with_reducible exact y0 | with_reducible exact z0 | with_reducible exact q0 | with_reducible exact r0) (first
        | (go_at_call 179; (with_reducible refine (bstring_spec bb bb (listOf keys) wr.drew HSBD.out HSZ.out).mono ?_); rintro e wa ⟨rfl, hba⟩; have HBA := Lib.hid (HBT.out wa hba); have HCA := Lib.hid (HC7.out.pure HBA.out); have HMA := Lib.hid (HM7.out.fresh HBA.out 0); have HTA := Lib.hid (HT7.out.trans (To.fresh Bld HBA.out o7 0)); have y0 := HCA.out.cells.1; clear hba)
        | (go_at_call 176; (with_reducible refine (HP0.out wa _ HCA.out).mono ?_); rintro e wb ⟨AK, cK, rfl, hoK, hbK⟩; have HBK := Lib.hid hbK; have HKV := Lib.hid hoK.is; have HKO := Lib.hid (show ∀ ad, AK = some ad → ad.block < wb.heap.size ∧ newO (newO o7 w7.heap.size 0) wa.heap.size 0 ad.block = 0 from fun ad e => ⟨(hoK.addr ad e).2.2, newO_new (hoK.addr ad e).2.1⟩); have HCB := Lib.hid (HCA.out.pure hbK); have HMB := Lib.hid (HMA.out.fresh hbK 0); have HTB := Lib.hid (HTA.out.trans (To.fresh Bld hbK _ 0)); have z0 := HCB.out.cells.1; clear hoK hbK)
        | (go_at_call 176; (with_reducible refine (HP1.out wb _ HCB.out).mono ?_); rintro e wc ⟨AV, cV, rfl, hoV, hbV⟩; have HVV := Lib.hid hoV.is; have HVO := Lib.hid (show ∀ ad, AV = some ad → ad.block < wc.heap.size ∧ newO (newO (newO o7 w7.heap.size 0) wa.heap.size 0) wb.heap.size 0 ad.block = 0 from fun ad e => ⟨(hoV.addr ad e).2.2, newO_new (hoV.addr ad e).2.1⟩); have HKV2 := Lib.hid (HKV.out.pure hbV); have HKO2 := Lib.hid (show ∀ ad, AK = some ad → ad.block < wc.heap.size ∧ newO (newO (newO o7 w7.heap.size 0) wa.heap.size 0) wb.heap.size 0 ad.block = 0 from fun ad e => ⟨Nat.lt_of_lt_of_le (HKO.out ad e).1 hbV.size, (newO_old (HKO.out ad e).1).trans (HKO.out ad e).2⟩); have HCC := Lib.hid (HCB.out.pure hbV); have HMC := Lib.hid (HMB.out.fresh hbV 0); have HTC := Lib.hid (HTB.out.trans (To.fresh Bld hbV _ 0)); have q0 := HCC.out.cells.1; clear hoV hbV)
        | (go_at_call 178; (with_reducible refine (table_spec M fl { b with s := b.s.take k } (listOf keys) AK j cK kvs AV j cV vs wc _ HMC.out HKV2.out HKO2.out HVV.out HVO.out HE.out.tab).mono ?_); rintro e wz ⟨rfl, oz, hMz, hTz⟩; have r0 : wz.cell? ⟨bx, 0, none⟩ = some (.pointer (some ⟨M.β, 0, none⟩)) := (HCC.out.to_ hTz bld_0).cells.1; have HMZ := Lib.hid hMz; have HTZ := Lib.hid (HTC.out.trans hTz); clear hMz hTz))
      go_wp2_with fail
      go_end0
      exact ⟨rfl, oz, HMZ.out, HTZ.out⟩
set_option maxHeartbeats 1000000 in
theorem endmap_spec (M : Bp) (fl : Int) (b : Bd) (keys : List (List UInt8)) (kvs vs : List Bv) (k : Nat) (w : World) (o : Nat → Nat) (h : BM M fl w o b) (hE : EmOk keys kvs vs k b) :
    Calls Tryz.prog 123 #[.pointer (some ⟨M.β, 0, none⟩), .int .i64 (k : Int)] w (BTo M fl (b.endMap (Go.Proofs.YtfoifdoaleaekaaGreat.bits fl) keys k) w o) := by
  have hB := below_two w (.cells #[.pointer (some ⟨M.β, 0, none⟩)] 122) (.cells #[.int .i64 (k : Int)] 3)
  have HB := Lib.hid hB
  have HM := Lib.hid (h.fresh hB 0)
  have e1 : b.endMap (Go.Proofs.YtfoifdoaleaekaaGreat.bits fl) keys k = Bd.table (Go.Proofs.YtfoifdoaleaekaaGreat.bits fl) (listOf keys) kvs vs { b with s := b.s.take k } := by
    obtain ⟨h1, h2⟩ := evens_both kvs vs (hE.kl.trans hE.vl.symm)
    rw [endMap_table, hE.cut, h1, h2]
  rw [e1]
  have HF := Lib.hid (endmap1_spec M fl b keys kvs vs k w.heap.size (w.heap.size + 1) _ (newO o w.heap.size 0) (h.fresh hB 0) ((Blk.new w 122 #[.pointer (some ⟨M.β, 0, none⟩)]).alloc _) (blk_new2 w _ 3 #[.int .i64 (k : Int)]) (newO_new (by omega)) hE)
  clear h hE hB e1
  go_enter Tryz.func123, Tryz.ntmps123
  go_wp2_with fail
  go_at_call 163
  refine (unless_spec M fl 174 _ _ (newO o w.heap.size 0) b.vals _ HM.out.head Tryz.call174 (HF.out.mono fun e w' h => ⟨h.1, h⟩)).mono ?_
  rintro e w' hR
  obtain rfl := hR.1
  have HR := Lib.hid (hR.from_fresh HB.out)
  clear hR
  go_wp2
  go_end0
  exact HR.out
end Go.Proofs.YtfoifdoaleaekaaGreat
