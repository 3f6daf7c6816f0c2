/-
  Package key, plain: places that put the keys in order give the sorted tree; a checked tree, sorted, is what calls asks for. No program in sight.
  Package encode: told.
  Trees that own their memory; slices.Clone of strings; tree.Copy.
-/
import Derived.Test.YtfoifdoaleaekaaGreatQf18
namespace Go.Proofs.YtfoifdoaleaekaaGreat
open Go.Acc
theorem sort_uniq {a b : List (List UInt8 × Tr)} (hp : a.Perm b) (ha : a.Pairwise (fun x y => x.1 < y.1)) (hb : b.Pairwise (fun x y => x.1 < y.1)) : a = b :=
  hp.eq_of_pairwise (fun _ _ _ _ h h' => absurd h' (List.lt_asymm h)) ha hb
theorem sort_ps {n : Nat} {ps : List Nat} (ks : List (List UInt8)) (c : List Tr) (d : Tr) (hk : ks.length = n) (hc : c.length = n) (hd : ks.Nodup) (hp : ps.Perm (List.range n)) (ha : ∀ (i j : Nat) (hi : i < ps.length) (hj : j < ps.length), i < j → ks.getD ps[i] [] < ks.getD ps[j] []) :
    ps.map (fun p => (ks.getD p [], c.getD p d)) = sortE (ks.zip c) := by
  have hz : (List.range n).map (fun p => (ks.getD p [], c.getD p d)) = ks.zip c := by
    apply List.ext_getElem
    · simp [hk, hc]
    · intro i h1 h2
      have hi : i < n := by simpa using h1
      simp only [List.getElem_map, List.getElem_range, List.getElem_zip]
      rw [List.getD_eq_getElem?_getD, List.getElem?_eq_getElem (by omega), List.getD_eq_getElem?_getD, List.getElem?_eq_getElem (by omega)]
      rfl
  refine sort_uniq ?_ ?_ (sortE_up _ ?_)
  · have h1 := hp.map (fun p => (ks.getD p [], c.getD p d))
    rw [hz] at h1
    exact h1.trans (sortE_perm _).symm
  · rw [List.pairwise_iff_getElem]
    intro i j hi hj hij
    rw [List.getElem_map, List.getElem_map]
    exact ha i j (by simpa using hi) (by simpa using hj) hij
  · rw [List.map_fst_zip (by omega)]
    exact hd
inductive NumT : Tr → Prop
  | mk {k n : Int} {u : Nat} {s : List UInt8} {ks : List (List UInt8)} {l : List Tr} (h1 : -9223372036854775808 ≤ n ∧ n ≤ 9223372036854775807) (h2 : u < 18446744073709551616) (h : ∀ t ∈ l, NumT t) : NumT (.mk k n u s ks l)
theorem costL_perm {a b : List Tr} (h : a.Perm b) : Tr.costL a = Tr.costL b := by
  induction h with
  | nil => rfl
  | cons x _ ih => rw [Tr.costL, Tr.costL, ih]
  | swap x y l => rw [Tr.costL, Tr.costL, Tr.costL, Tr.costL]; omega
  | trans _ _ h1 h2 => exact h1.trans h2
theorem keysCost_perm {a b : List (List UInt8)} (h : a.Perm b) : keysCost a = keysCost b := by
  induction h with
  | nil => rfl
  | cons x _ ih => rw [keysCost, keysCost, ih]
  | swap x y l => rw [keysCost, keysCost, keysCost, keysCost]; omega
  | trans _ _ h1 h2 => exact h1.trans h2
mutual
theorem cost_sort : ∀ (t : Tr), Val t → (sortT t).cost = t.cost
  | .mk k n u s ks l, h => by
    cases h with
    | mk h1 h2 h3 h4 hl =>
      have ih := costL_sort l hl
      simp only [suchT, Bool.and_eq_true, decide_eq_true_eq] at h1
      obtain ⟨⟨⟨_, glen⟩, _⟩, _⟩ := h1
      rw [sortT]
      by_cases hk : k = 17
      · rw [if_pos hk]
        have glen : ks.length = l.length := glen hk
        have hll : (sortL l).length = l.length := by rw [sortL_map, List.length_map]
        have hp := sortE_perm (ks.zip (sortL l))
        have e1 := keysCost_perm (hp.map (·.1))
        have e2 := costL_perm (hp.map (·.2))
        rw [List.map_fst_zip (by omega)] at e1
        rw [List.map_snd_zip (by omega)] at e2
        rw [Tr.cost, Tr.cost, e1, e2, ih]
      · rw [if_neg hk, Tr.cost, Tr.cost, ih]
theorem costL_sort : ∀ (l : List Tr), (∀ t ∈ l, Val t) → Tr.costL (sortL l) = Tr.costL l
  | [], _ => rfl
  | t :: r, h => by
    rw [sortL, Tr.costL, Tr.costL, cost_sort t (h t (by simp)), costL_sort r (fun x hx => h x (by simp [hx]))]
end
mutual
/-- A tree has no more nodes than its cost. -/
theorem pre_cost : ∀ (t : Tr) (d : Nat), (Tr.pre d t).length ≤ t.cost
  | .mk k n u s ks l, d => by
    have := preL_cost l (d + 1)
    rw [Tr.pre, Tr.cost, List.length_cons]
    omega
theorem preL_cost : ∀ (l : List Tr) (d : Nat), (Tr.pre.Tr.preL d l).length ≤ Tr.costL l
  | [], _ => by simp [Tr.pre.Tr.preL]
  | t :: r, d => by
    have h1 := pre_cost t d
    have h2 := preL_cost r d
    rw [Tr.pre.Tr.preL, Tr.costL, List.length_append]
    omega
end
theorem costL_mem : ∀ {l : List Tr} {t : Tr}, t ∈ l → t.cost + 40 ≤ Tr.costL l
  | [], _, h => by simp at h
  | x :: r, t, h => by
    rw [Tr.costL]
    rcases List.mem_cons.1 h with rfl | h
    · omega
    · have := costL_mem h
      omega
theorem keysCost_mem : ∀ (l : List (List UInt8)) (s : List UInt8), s ∈ l → s.length ≤ keysCost l
  | [], _, h => by simp at h
  | x :: r, s, h => by
    rw [keysCost]
    rcases List.mem_cons.1 h with rfl | h
    · omega
    · have := keysCost_mem r s h
      omega
mutual
theorem pre_keys : ∀ (t : Tr) (d : Nat) (y : Nat × Tr), y ∈ Tr.pre d t → ∀ s ∈ y.2.ks, s.length ≤ t.cost
  | .mk k n u s ks l, d, y, hy, z, hz => by
    rw [Tr.pre] at hy
    rw [Tr.cost]
    rcases List.mem_cons.1 hy with rfl | hy
    · have := keysCost_mem ks z hz
      omega
    · have := preL_keys l (d + 1) y hy z hz
      omega
theorem preL_keys : ∀ (l : List Tr) (d : Nat) (y : Nat × Tr), y ∈ Tr.pre.Tr.preL d l → ∀ s ∈ y.2.ks, s.length ≤ Tr.costL l
  | [], _, y, hy, _, _ => by simp [Tr.pre.Tr.preL] at hy
  | t :: r, d, y, hy, z, hz => by
    rw [Tr.pre.Tr.preL] at hy
    rw [Tr.costL]
    rcases List.mem_append.1 hy with h | h
    · have := pre_keys t d y h z hz
      omega
    · have := preL_keys r d y h z hz
      omega
end
end Go.Proofs.YtfoifdoaleaekaaGreat

namespace Go.Proofs.YtfoifdoaleaekaaGreat
open Go.RowKit Go.Acc
theorem is_one {α : Type} {f : α → List Value} (W : World) (t : TypeId) (x : α) (u : Value) (h : f x = [u]) : Is f (W.alloc (.cells #[u] t)) (some ⟨W.heap.size, 0, none⟩) 1 [x] := by
  refine ⟨rfl, fun j y hy => ⟨_, _, rfl, ?_⟩⟩
  rw [Nat.zero_add, (Blk.new W t _).cell j]
  have e : [x].flatMap f = [u] := by simp [h]
  rw [e] at hy
  simpa using hy
theorem info_st : (Tryz.prog.info? 9).map (fun i => (i.zero, i.size, i.bytes)) = some (some (.string ⟨#[]⟩), 1, 16) := by kernel_rfl
end Go.Proofs.YtfoifdoaleaekaaGreat

namespace Go.Proofs.YtfoifdoaleaekaaGreat
open Go.RowKit Go.Acc
theorem own_by {W W' : World} {base e size n : Nat} {v : Value} {xs : List Value} (h : W.ownsRow base e size v n xs) (hk : ∀ g, v.ownBlock = some g → W'.heap[g]? = W.heap[g]?) : W'.ownsRow base e size v n xs := by
  refine ⟨h.1, ?_⟩
  rcases h.2 with hn | ⟨g, cap, cur, rfl, hbg, hg, rest⟩
  · exact .inl hn
  · exact .inr ⟨g, cap, cur, rfl, hbg, by rw [hk g rfl]; exact hg, rest⟩
theorem ownt_by {W W' : World} {A : Option Addr} {B n c : Nat} {l : List Nv} (h : OwnT W B A n c l) (hk : ∀ ad, A = some ad → W'.heap[ad.block]? = W.heap[ad.block]?) : OwnT W' B A n c l := by
  refine ⟨h.1, own_by h.2 fun g e => ?_⟩
  cases A with
  | none => simp [Value.ownBlock] at e
  | some ad => simp [Value.ownBlock] at e; subst e; exact hk ad rfl
inductive NodeX (w : World) : (Nat → Prop) → Nv → Tr → Prop
  | mk {p : Nat → Prop} {x : Nv} {ks : List (List UInt8)} {l : List Tr} {vs : List Nv} (q : Nat → Nat → Prop) (h1 : IsS w x.A x.an ks) (ha : ∀ ad, x.A = some ad → p ad.block ∧ ∀ i, ¬ q i ad.block) (hac : x.an ≤ x.ac) (hx : x.an ≤ 1099511627776)
      (h2 : OwnT w 0 x.B x.bn x.bc vs) (hb : ∀ ad, x.B = some ad → p ad.block ∧ ∀ i, ¬ q i ad.block) (hy : x.bn ≤ 1099511627776) (hab : ∀ a b, x.A = some a → x.B = some b → a.block ≠ b.block)
      (hq : ∀ i k, q i k → p k) (hd : ∀ i j k, i ≠ j → q i k → ¬ q j k) (hl : vs.length = l.length)
      (hc : ∀ (i : Nat) v t, vs[i]? = some v → l[i]? = some t → NodeX w (q i) v t) : NodeX w p x (.mk x.k x.n x.u x.s ks l)
theorem NodeX.keep {w w' : World} {p : Nat → Prop} {x : Nv} {t : Tr} (h : NodeX w p x t) : (∀ b, p b → w'.heap[b]? = w.heap[b]?) → NodeX w' p x t := by
  induction h with
  | mk q h1 ha hac hx h2 hb hy hab hq hd hl hc ih =>
    intro hk
    refine .mk q ⟨h1.1, rd_by h1.2 (fun ad e => (ha ad e).1) fun a u hc hpa => ?_⟩ ha hac hx (ownt_by h2 fun ad e => hk _ (hb ad e).1) hb hy hab hq hd hl (fun i v t hv ht => ih i v t hv ht fun b hb => hk b (hq i b hb))
    rw [World.cell?_of_block (hk _ hpa)]
    exact hc
theorem NodeX.pure {w w' : World} {p : Nat → Prop} {x : Nv} {t : Tr} (h : NodeX w p x t) (hp : ∀ b, p b → b < w.heap.size) (hb : Below w.heap.size w w') : NodeX w' p x t := h.keep fun b hpb => hb.block b (hp b hpb)
theorem info_nd : (Tryz.prog.info? 26).map (fun i => (i.zero, i.size, i.bytes)) = some (some (.agg #[.int .i64 0, .int .i64 0, .int .u64 0, .string ⟨#[]⟩, .slice none 0 0, .slice none 0 0]), 6, 88) := by kernel_rfl
theorem nv_one (W : World) (x : Nv) : IsN (W.alloc (.cells #[.int .i64 x.k, .int .i64 x.n, .int .u64 (x.u : Int), .string ⟨x.s.toArray⟩, .slice x.A x.an x.ac, .slice x.B x.bn x.bc] 26)) (some ⟨W.heap.size, 0, none⟩) 1 [x] := by
  refine ⟨rfl, fun j y hy => ⟨_, _, rfl, ?_⟩⟩
  rw [Nat.zero_add, (Blk.new W 26 _).cell j]
  have e : [x].flatMap nvc = nvc x := by simp
  rw [e] at hy
  rw [← hy]
  simp [nvc]
def CopiedS (w : World) (m : List (List UInt8)) (e : Ending) (w' : World) : Prop :=
  ∃ A n c, e = .returned (.slice A n c) ∧ OwnS w' w.heap.size A n c m ∧ Below w.heap.size w w'
theorem copieds_post {w w1 w' : World} {A : Option Addr} {n c : Nat} {l m : List (List UInt8)} (h : OwnS w' w.heap.size A n c l) (hl : l = m) (h1 : Below w.heap.size w w1) {S : Nat → Prop} (hg : Fr S w1 w') (hS : ∀ k, k < w.heap.size → ¬ S k) : CopiedS w m (.returned (.slice A n c)) w' := by
  subst hl
  exact ⟨A, n, c, rfl, h, h1.trans (hg.belowB hS h1.size)⟩
set_option maxHeartbeats 400000 in
theorem clones_spec (A : Option Addr) (n c : Nat) (l : List (List UInt8)) (w : World) (h : IsS w A n l) (hl : n ≤ 1099511627776) :
    Calls Tryz.prog 89 #[.slice A n c] w (CopiedS w l) := by
  have hnil := fun (w : World) (A : Option Addr) (n c : Nat) => Lib.run_eql_slice_nil (P := Tryz.prog) w 23 9 A n c 0 0 Tryz.underlying23
  rcases A with _ | a
  · obtain ⟨rfl, rfl⟩ := h.none_ stc_len (by omega)
    clear h hl
    go_enter Tryz.func89, Tryz.ntmps89
    go_wp2_with fail
    go_ret
    exact ⟨none, 0, 0, rfl, Own.nil _ _, Below.refl _ _⟩
  · have hr : IsS (w.alloc (.cells #[] 9)) (some a) n l := h.alloc _
    have ho : OwnS (w.alloc (.cells #[] 9)) w.heap.size (some ⟨w.heap.size, 0, none⟩) 0 0 [] := ⟨rfl, World.ownsRow_lit w #[] 0 (Nat.le_refl _) (Nat.zero_le _) rfl⟩
    have HR := Lib.hid hr
    clear h hr
    go_enter Tryz.func89, Tryz.ntmps89
    go_wp2_with (at_builtin; refine wpl_app _ rfl (.tmp 5) (.tmp 6) _ rfl 9 _ 1 16 Tryz.underlying23 info_st rfl (by omega) stc_len stc_one _ _ _ _ _ rfl ho _ _ _ _ rfl HR.out (by omega) (by simp) ?_; intro A1 c1 w1 hown1 hfr1 hat1)
    go_ret
    exact copieds_post (by simpa using hown1) rfl ((Below.refl _ _).alloc (Nat.le_refl _) _) hfr1 (by rintro k hk ⟨ad, h, h'⟩; injection h with h; subst h; simp at h'; omega)
structure CpR (w : World) (B : Nat) (k : Nat) (ts : List Tr) (A : Option Addr) (c : Nat) (vs : List Nv) (q : Nat → Nat → Prop) : Prop where
  own : OwnT w B A k c vs
  lt : ∀ i b, q i b → B ≤ b ∧ b < w.heap.size ∧ i < k
  off : ∀ ad, A = some ad → ∀ i, ¬ q i ad.block
  apart : ∀ i j b, i ≠ j → q i b → ¬ q j b
  kids : ∀ (i : Nat) v t, vs[i]? = some v → ts[i]? = some t → NodeX w (q i) v t
theorem CpR.pure {w w' : World} {B k : Nat} {ts : List Tr} {A : Option Addr} {c : Nat} {vs : List Nv} {q : Nat → Nat → Prop} (h : CpR w B k ts A c vs q) (hb : Below w.heap.size w w') : CpR w' B k ts A c vs q :=
  ⟨h.own.pure hb, fun i b e => ⟨(h.lt i b e).1, Nat.lt_of_lt_of_le (h.lt i b e).2.1 hb.size, (h.lt i b e).2.2⟩, h.off, h.apart, fun i v t hv ht => (h.kids i v t hv ht).pure (fun b e => (h.lt i b e).2.1) hb⟩
theorem CpR.step {w W W' : World} {B k : Nat} {ts : List Tr} {A A1 : Option Addr} {c c1 : Nat} {vs : List Nv} {q : Nat → Nat → Prop} {x : Nv} {t : Tr} {a : Nat} (h : CpR W B k ts A c vs q) (ht : ts[k]? = some t) (hB : B ≤ a) (hqa : ∀ i b, q i b → b < a) (hA : ∀ ad, A = some ad → ad.block < a)
    (hx : NodeX W (fun b => a ≤ b ∧ b < w.heap.size) x t) (hw : w.heap.size ≤ W.heap.size) (ho : OwnT W' B A1 (k + 1) c1 (vs ++ [x])) (hf : Fr (fun b => ∃ ad, A = some ad ∧ b = ad.block) W W')
    (hat : A1.map (·.block) = A.map (·.block) ∨ A1.map (·.block) = some W.heap.size) : CpR W' B (k + 1) ts A1 c1 (vs ++ [x]) (fun i b => q i b ∨ (i = k ∧ a ≤ b ∧ b < w.heap.size)) := by
  have hl : vs.length = k := h.own.1
  have hlt := h.lt
  refine ⟨ho, ?_, ?_, ?_, ?_⟩
  · rintro i b (e | ⟨rfl, e1, e2⟩)
    · obtain ⟨e1, e2, e3⟩ := h.lt i b e
      exact ⟨e1, Nat.lt_of_lt_of_le e2 hf.size, by omega⟩
    · exact ⟨by omega, Nat.lt_of_lt_of_le e2 (Nat.le_trans hw hf.size), by omega⟩
  · intro ad e i hi
    subst e
    rcases hat with e | e
    · cases A with
      | none => simp at e
      | some ad0 =>
        simp at e
        rw [e] at hi
        rcases hi with hi | ⟨_, h1, _⟩
        · exact h.off _ rfl i hi
        · have := hA _ rfl
          omega
    · simp at e
      rw [e] at hi
      rcases hi with hi | ⟨_, _, h2⟩
      · have := (h.lt i _ hi).2.1
        omega
      · omega
  · rintro i j b hij (e | ⟨rfl, e1, e2⟩) (e' | ⟨rfl, e3, e4⟩)
    · exact h.apart i j b hij e e'
    · have := hqa i b e
      omega
    · have := hqa j b e'
      omega
    · exact hij rfl
  · intro i v t' hv ht'
    by_cases hi : i < k
    · rw [List.getElem?_append_left (by omega)] at hv
      have h1 := (h.kids i v t' hv ht').keep (w' := W') fun b hb => hf.block b (h.lt i b hb).2.1 (by rintro ⟨ad, e, rfl⟩; exact h.off ad e i hb)
      have e : (fun b => q i b ∨ (i = k ∧ a ≤ b ∧ b < w.heap.size)) = q i := by
        funext b
        exact propext ⟨fun hh => hh.elim (fun x => x) (fun x => absurd x.1 (by omega)), .inl⟩
      rw [e]
      exact h1
    · rw [List.getElem?_append_right (by omega)] at hv
      have hi2 : i = k := by
        have := (List.getElem?_eq_some_iff.1 hv).1
        simp at this
        omega
      subst hi2
      rw [hl, Nat.sub_self] at hv
      simp at hv
      subst hv
      rw [ht] at ht'
      injection ht' with ht'
      subst ht'
      have h1 := hx.keep (w' := W') fun b hb => hf.block b (Nat.lt_of_lt_of_le hb.2 hw) (by rintro ⟨ad, e, rfl⟩; have := hA ad e; omega)
      have e : (fun b => q i b ∨ (i = i ∧ a ≤ b ∧ b < w.heap.size)) = (fun b => a ≤ b ∧ b < w.heap.size) := by
        funext b
        exact propext ⟨fun hh => hh.elim (fun x => absurd (h.lt i b x).2.2 (by omega)) (fun x => x.2), fun hh => .inr ⟨rfl, hh⟩⟩
      rw [e]
      exact h1
theorem fr_set6 (w : World) (g : Nat) (v0 v1 v2 v3 v4 v5 : Value) :
    Fr (fun j => j = g) w ((((((w.setCell ⟨g, 0, none⟩ v0).setCell ⟨g, 1, none⟩ v1).setCell ⟨g, 2, none⟩ v2).setCell ⟨g, 3, none⟩ v3).setCell ⟨g, 4, none⟩ v4).setCell ⟨g, 5, none⟩ v5) :=
  ((((((Fr.refl (fun j => j = g) w).setCell (p := ⟨g, 0, none⟩) (fun _ => rfl) v0).setCell (p := ⟨g, 1, none⟩) (fun _ => rfl) v1).setCell (p := ⟨g, 2, none⟩) (fun _ => rfl) v2).setCell (p := ⟨g, 3, none⟩) (fun _ => rfl) v3).setCell (p := ⟨g, 4, none⟩) (fun _ => rfl) v4).setCell (p := ⟨g, 5, none⟩) (fun _ => rfl) v5
def CopW (w : World) (t : Tr) (e : Ending) (w' : World) : Prop :=
  ∃ x : Nv, e = .returned (.agg #[.int .i64 x.k, .int .i64 x.n, .int .u64 (x.u : Int), .string ⟨x.s.toArray⟩, .slice x.A x.an x.ac, .slice x.B x.bn x.bc]) ∧ NodeX w' (fun b => w.heap.size ≤ b ∧ b < w'.heap.size) x t ∧ Below w.heap.size w w'
set_option maxRecDepth 100000 in
set_option maxHeartbeats 4000000 in
theorem copy_spec {w0 : World} {p : Nat → Prop} {x : Nv} {t : Tr} (h : NodeR w0 p x t) : ∀ W, Below w0.heap.size w0 W → Calls Tryz.prog 53 #[.agg #[.int .i64 x.k, .int .i64 x.n, .int .u64 (x.u : Int), .string ⟨x.s.toArray⟩, .slice x.A x.an x.ac, .slice x.B x.bn x.bc]] W (CopW W t) := by
  induction h with
  | @mk x ks l vs h1 ha hac hx h2 hb hbc hy hl hc ih =>
    intro W hW
    have HW := Lib.hid hW
    have HIH := Lib.hid ih
    have HI := Lib.hid (show IsN W x.B x.bn vs from h2.pure hW)
    have HK := Lib.hid (show IsS W x.A x.an ks from h1.pure hW)
    have HVL := Lib.hid hl
    have HBN := Lib.hid (show vs.length = x.bn from h2.1)
    have HB0 := Lib.hid (below_two W (.cells #[.int .i64 x.k, .int .i64 x.n, .int .u64 (x.u : Int), .string ⟨x.s.toArray⟩, .slice x.A x.an x.ac, .slice x.B x.bn x.bc] 26) (.cells #[.int .i64 0, .int .i64 0, .int .u64 0, .string ⟨#[]⟩, .slice none 0 0, .slice none 0 0] 26))
    have HX0 := Lib.hid ((Blk.new W 26 #[.int .i64 x.k, .int .i64 x.n, .int .u64 (x.u : Int), .string ⟨x.s.toArray⟩, .slice x.A x.an x.ac, .slice x.B x.bn x.bc]).alloc (.cells #[.int .i64 0, .int .i64 0, .int .u64 0, .string ⟨#[]⟩, .slice none 0 0, .slice none 0 0] 26))
    have HR0 := Lib.hid (Blk.new_ (w := W.alloc (.cells #[.int .i64 x.k, .int .i64 x.n, .int .u64 (x.u : Int), .string ⟨x.s.toArray⟩, .slice x.A x.an x.ac, .slice x.B x.bn x.bc] 26)) (g := W.heap.size + 1) (by simp) 26 #[.int .i64 0, .int .i64 0, .int .u64 0, .string ⟨#[]⟩, .slice none 0 0, .slice none 0 0])
    have HSZ := Lib.hid (show ((W.alloc (.cells #[.int .i64 x.k, .int .i64 x.n, .int .u64 (x.u : Int), .string ⟨x.s.toArray⟩, .slice x.A x.an x.ac, .slice x.B x.bn x.bc] 26)).alloc (.cells #[.int .i64 0, .int .i64 0, .int .u64 0, .string ⟨#[]⟩, .slice none 0 0, .slice none 0 0] 26)).heap.size = W.heap.size + 2 by simp)
    have hxa : x.an ≤ 1099511627776 := by omega
    have hxb : x.bn ≤ 1099511627776 := by omega
    obtain ⟨xk, xn, xu, xs, XA, xan, xac, XB, xbn, xbc⟩ := x
    have hxa : xan ≤ 1099511627776 := hxa
    have hxb : xbn ≤ 1099511627776 := hxb
    have HBN := Lib.hid (show vs.length = xbn from HBN.out)
    have HKL := Lib.hid (show ks.length = xan from h1.1)
    clear ih h1 ha h2 hb hbc hl hc hW hac hx hy
    go_enter Tryz.func53, Tryz.ntmps53
    go_upto_region 1 with fail
    generalize (W.alloc (.cells #[.int .i64 xk, .int .i64 xn, .int .u64 (xu : Int), .string ⟨xs.toArray⟩, .slice XA xan xac, .slice XB xbn xbc] 26)).alloc (.cells #[.int .i64 0, .int .i64 0, .int .u64 0, .string ⟨#[]⟩, .slice none 0 0, .slice none 0 0] 26) = w1 at HB0 HX0 HR0 HSZ ⊢
    generalize hbt : W.heap.size = bt at HX0 HR0 HSZ ⊢
    generalize hbr : bt + 1 = br at HR0 ⊢
    have HT := Lib.hid (And.intro hbt hbr)
    clear hbt hbr
    have c4 : w1.cell? ⟨bt, 4, none⟩ = some (.slice XA xan xac) := HX0.out.cell 4
    go_wp2_with fail
    go_at_call 89
    refine (clones_spec XA xan xac ks _ (HK.out.pure HB0.out) hxa).mono ?_
    rintro e w2 ⟨A1, n1, c1, rfl, hO1, hB1⟩
    obtain rfl : xan = n1 := by rw [← hO1.1]; exact HKL.out.symm
    have HO1 := Lib.hid hO1
    have HB1 := Lib.hid (pure_below HB0.out hB1)
    have HX1 := Lib.hid (HX0.out.pure hB1)
    have HR1 := Lib.hid (HR0.out.pure hB1)
    have HS1 := Lib.hid (show br < w1.heap.size ∧ w1.heap.size ≤ w2.heap.size from ⟨HR0.out.lt, hB1.size⟩)
    clear c4 hO1 hB1
    have c4 : w2.cell? ⟨bt, 4, none⟩ = some (.slice XA xan xac) := HX1.out.cell 4
    have f4 : w2.frozen? ⟨bt, 4, none⟩ = false := HX1.out.frozen 4
    go_upto_region 2 with fail
    have HF2 := Lib.hid (Fr.setCell (S := fun j => j = bt) (Fr.refl _ w2) (p := ⟨bt, 4, none⟩) (fun _ => rfl) (.slice A1 xan c1))
    have HX2 := Lib.hid (show Blk (w2.setCell ⟨bt, 4, none⟩ (.slice A1 xan c1)) bt 26 #[.int .i64 xk, .int .i64 xn, .int .u64 (xu : Int), .string ⟨xs.toArray⟩, .slice A1 xan c1, .slice XB xbn xbc] from HX1.out.set_ 4 _)
    generalize w2.setCell ⟨bt, 4, none⟩ (.slice A1 xan c1) = w3 at HF2 HX2 ⊢
    have hne : bt ≠ br := by have := HT.out.2; omega
    have HR2 := Lib.hid (HR1.out.fr HF2.out (by omega))
    have HKS := Lib.hid (show IsS w3 A1 xan ks ∧ ∀ ad, A1 = some ad → W.heap.size ≤ ad.block ∧ ad.block < w3.heap.size ∧ ad.block ≠ bt ∧ ad.block ≠ br by
      have hA : ∀ ad, A1 = some ad → w1.heap.size ≤ ad.block ∧ ad.block < w2.heap.size := fun ad e => (HO1.out.addr ad e).2
      have hbt : bt < w1.heap.size := by have h1 := HS1.out.1; have h2 := HT.out.2; omega
      refine ⟨HO1.out.is.fr HF2.out (fun ad e => by have := hA ad e; omega), fun ad e => ?_⟩
      have h3 := hA ad e
      have h4 := HB0.out.size
      have h5 := HF2.out.size
      have h6 := HS1.out.1
      have h7 := HT.out
      omega)
    have HB2 := Lib.hid (below_fr HB1.out HF2.out (by rintro j rfl; exact Nat.le_of_eq HT.out.1))
    have HCAP := Lib.hid (show xan ≤ c1 from HO1.out.cap.1)
    have HS2 := Lib.hid (show br < w3.heap.size by have h1 := HS1.out; have h2 := HF2.out.size; omega)
    clear c4 f4 hne HX1 HR1 HX0 HR0 HF2 HO1 HB0 HB1 HSZ HK
    have c5 : w3.cell? ⟨bt, 5, none⟩ = some (.slice XB xbn xbc) := HX2.out.cell 5
    go_wp2_with fail
    go_loopw [3, 13] (fun s u wr => ∃ k : Nat, k ≤ xbn ∧ u = .int .i64 k ∧ ∃ A c us q, s = .slice A k c ∧ CpR wr w3.heap.size k l A c us q ∧ Below W.heap.size W wr ∧ Blk wr bt 26 #[.int .i64 xk, .int .i64 xn, .int .u64 (xu : Int), .string ⟨xs.toArray⟩, .slice A1 xan c1, .slice XB xbn xbc] ∧ Blk wr br 26 #[.int .i64 0, .int .i64 0, .int .u64 0, .string ⟨#[]⟩, .slice none 0 0, .slice none 0 0] ∧ IsS wr A1 xan ks ∧ w3.heap.size ≤ wr.heap.size) (fun _ u _ => xbn - (intOf u).toNat)
    case atStart => exact ⟨0, Nat.zero_le _, rfl, none, 0, [], fun _ _ => False, rfl, ⟨Own.nil _ _, fun _ _ h => h.elim, fun _ h => (by cases h), fun _ _ _ _ h => h.elim, fun i v t hv _ => by simp at hv⟩, HB2.out, HX2.out, HR2.out, HKS.out.1, Nat.le_refl _⟩
    case round =>
      obtain ⟨k, hk, rfl, A, c, us, q, rfl, hC, hbr, hx, hr, hks, hsz⟩ := hrel
      have HC := Lib.hid hC
      have HBR := Lib.hid hbr
      have HXR := Lib.hid hx
      have HRR := Lib.hid hr
      have HKR := Lib.hid hks
      have HSR := Lib.hid hsz
      clear hC hbr hx hr hks hsz c5
      by_cases hlt : k < xbn
      · obtain ⟨v, hv⟩ : ∃ v, vs[k]? = some v := ⟨_, List.getElem?_eq_getElem (by have := HBN.out; omega)⟩
        obtain ⟨t', ht'⟩ : ∃ t', l[k]? = some t' := ⟨_, List.getElem?_eq_getElem (by have := HBN.out; have := HVL.out; omega)⟩
        have hIr := HI.out.pure HBR.out
        obtain ⟨g, off, e, v0, v1, v2, v3, v4, v5⟩ := isn_at hIr hv
        have hal := (Below.refl wr.heap.size wr).alloc (Nat.le_refl _) (.cells #[.int .i64 v.k, .int .i64 v.n, .int .u64 (v.u : Int), .string ⟨v.s.toArray⟩, .slice v.A v.an v.ac, .slice v.B v.bn v.bc] 26)
        have HCD := Lib.hid (HIH.out k v t' hv ht' (wr.alloc (.cells #[.int .i64 v.k, .int .i64 v.n, .int .u64 (v.u : Int), .string ⟨v.s.toArray⟩, .slice v.A v.an v.ac, .slice v.B v.bn v.bc] 26)) (pure_below HW.out (pure_below HBR.out hal)))
        have HAL := Lib.hid hal
        have HT' := Lib.hid ht'
        have hk0 : (0 : Int) ≤ (k : Int) := by omega
        have hkn : (k : Int) < (xbn : Int) := by omega
        have e : XB = some ⟨g, off, none⟩ := e
        rw [e]
        have HEE := Lib.hid e
        clear hIr hv ht' hal e
        go_wp2_with fail
        go_at_call 53
        refine HCD.out.mono ?_
        rintro e w5 ⟨y, rfl, hX5, hB5⟩
        have hB6 := (Below.refl w5.heap.size w5).alloc (Nat.le_refl _) (.cells #[.int .i64 y.k, .int .i64 y.n, .int .u64 (y.u : Int), .string ⟨y.s.toArray⟩, .slice y.A y.an y.ac, .slice y.B y.bn y.bc] 26)
        have HB56 := Lib.hid (pure_trans (pure_trans HAL.out hB5) hB6)
        have HO6 := Lib.hid (HC.out.own.pure HB56.out)
        have HI6 := Lib.hid (nv_one w5 y)
        have HX5 := Lib.hid hX5
        have HS5 := Lib.hid (show w3.heap.size ≤ (w5.alloc (.cells #[.int .i64 y.k, .int .i64 y.n, .int .u64 (y.u : Int), .string ⟨y.s.toArray⟩, .slice y.A y.an y.ac, .slice y.B y.bn y.bc] 26)).heap.size from Nat.le_trans HSR.out HB56.out.size)
        have HSS := Lib.hid (show (wr.alloc (.cells #[.int .i64 v.k, .int .i64 v.n, .int .u64 (v.u : Int), .string ⟨v.s.toArray⟩, .slice v.A v.an v.ac, .slice v.B v.bn v.bc] 26)).heap.size ≤ w5.heap.size from hB5.size)
        clear hX5 hB5 hB6 v0 v1 v2 v3 v4 v5
        go_wp2_with (at_builtin; refine wpl_app _ rfl (.tmp 17) (.tmp 20) _ rfl 26 _ 6 88 Tryz.underlying24 info_nd rfl (by omega) nvc_len nvc_one _ _ _ _ _ rfl HO6.out _ _ _ _ rfl HI6.out (by omega) HS5.out ?_; intro A2 c2 w6 hown hfr hat)
        have hA6 : ∀ ad, A = some ad → w3.heap.size ≤ ad.block ∧ ad.block < wr.heap.size := fun ad e => (HC.out.own.addr ad e).2
        have hlr : wr.heap.size < (wr.alloc (.cells #[.int .i64 v.k, .int .i64 v.n, .int .u64 (v.u : Int), .string ⟨v.s.toArray⟩, .slice v.A v.an v.ac, .slice v.B v.bn v.bc] 26)).heap.size := by simp
        have hst := (HC.out.pure HB56.out).step (w := w5) (a := (wr.alloc (.cells #[.int .i64 v.k, .int .i64 v.n, .int .u64 (v.u : Int), .string ⟨v.s.toArray⟩, .slice v.A v.an v.ac, .slice v.B v.bn v.bc] 26)).heap.size) HT'.out (by have := HSR.out; omega) (fun i b hb => by have := (HC.out.lt i b hb).2.1; omega) (fun ad e => by have := hA6 ad e; omega)
          (HX5.out.pure (fun b hb => hb.2) ((Below.refl w5.heap.size w5).alloc (Nat.le_refl _) (.cells #[.int .i64 y.k, .int .i64 y.n, .int .u64 (y.u : Int), .string ⟨y.s.toArray⟩, .slice y.A y.an y.ac, .slice y.B y.bn y.bc] 26))) (by simp) hown hfr hat
        have HST := Lib.hid hst
        have hnb : ∀ b, b < w3.heap.size → ¬ (∃ ad, A = some ad ∧ b = ad.block) := by
          rintro b hb ⟨ad, e, rfl⟩
          have := hA6 ad e
          omega
        have HB7 := Lib.hid (below_fr (pure_below HBR.out HB56.out) hfr (by rintro j ⟨ad, e, rfl⟩; have h1 := hA6 ad e; have h2 := HB2.out.size; omega))
        have HX7 := Lib.hid ((HXR.out.pure HB56.out).fr hfr (hnb _ HX2.out.lt))
        have HR7 := Lib.hid ((HRR.out.pure HB56.out).fr hfr (hnb _ HR2.out.lt))
        have HK7 := Lib.hid ((HKR.out.pure HB56.out).fr hfr (fun ad e => hnb _ (HKS.out.2 ad e).2.1))
        have HS7 := Lib.hid (Nat.le_trans HS5.out hfr.size)
        clear hown hfr hat hst hnb hA6 hlr
        go_wp2_with fail
        go_roundw
        case rel => exact ⟨k + 1, by omega, by go_num, A2, c2, _, _, rfl, HST.out, HB7.out, by rw [HEE.out] at *; exact HX7.out, HR7.out, HK7.out, HS7.out⟩
        case measure => simp [intOf]; omega
      · obtain rfl : k = xbn := by omega
        have c5 : wr.cell? ⟨bt, 5, none⟩ = some (.slice XB k xbc) := HXR.out.cell 5
        have f5 : wr.frozen? ⟨bt, 5, none⟩ = false := HXR.out.frozen 5
        go_upto_region 9 with fail
        have HF8 := Lib.hid (Fr.setCell (S := fun j => j = bt) (Fr.refl _ wr) (p := ⟨bt, 5, none⟩) (fun _ => rfl) (.slice A k c))
        have HX8 := Lib.hid (show Blk (wr.setCell ⟨bt, 5, none⟩ (.slice A k c)) bt 26 #[.int .i64 xk, .int .i64 xn, .int .u64 (xu : Int), .string ⟨xs.toArray⟩, .slice A1 xan c1, .slice A k c] from HXR.out.set_ 5 _)
        generalize wr.setCell ⟨bt, 5, none⟩ (.slice A k c) = w8 at HF8 HX8 ⊢
        have HR8 := Lib.hid (HRR.out.fr HF8.out (by have := HT.out.2; omega))
        have HS8 := Lib.hid (show wr.heap.size ≤ w8.heap.size from HF8.out.size)
        have HB8 := Lib.hid (below_fr HBR.out HF8.out (by rintro j rfl; exact Nat.le_of_eq HT.out.1))
        clear c5 f5
        have c0 : w8.cell? ⟨bt, 0, none⟩ = some (.int .i64 xk) := HX8.out.cell 0
        have c1' : w8.cell? ⟨bt, 1, none⟩ = some (.int .i64 xn) := HX8.out.cell 1
        have c2 : w8.cell? ⟨bt, 2, none⟩ = some (.int .u64 (xu : Int)) := HX8.out.cell 2
        have c3 : w8.cell? ⟨bt, 3, none⟩ = some (.string ⟨xs.toArray⟩) := HX8.out.cell 3
        have c4 : w8.cell? ⟨bt, 4, none⟩ = some (.slice A1 xan c1) := HX8.out.cell 4
        have c5 : w8.cell? ⟨bt, 5, none⟩ = some (.slice A k c) := HX8.out.cell 5
        have r0 : w8.cell? ⟨br, 0, none⟩ = some (.int .i64 0) := HR8.out.cell 0
        have r1 : w8.cell? ⟨br, 1, none⟩ = some (.int .i64 0) := HR8.out.cell 1
        have r2 : w8.cell? ⟨br, 2, none⟩ = some (.int .u64 0) := HR8.out.cell 2
        have r3 : w8.cell? ⟨br, 3, none⟩ = some (.string ⟨#[]⟩) := HR8.out.cell 3
        have r4 : w8.cell? ⟨br, 4, none⟩ = some (.slice none 0 0) := HR8.out.cell 4
        have r5 : w8.cell? ⟨br, 5, none⟩ = some (.slice none 0 0) := HR8.out.cell 5
        have hfz : ∀ j, w8.frozen? ⟨br, j, none⟩ = false := fun j => HR8.out.frozen j
        have f0 := hfz 0
        have f1 := hfz 1
        have f2 := hfz 2
        have f3 := hfz 3
        have f4 := hfz 4
        have f5 := hfz 5
        clear hfz
        go_wp2_with fail
        refine bodyPost_ret (v := .agg #[.int .i64 xk, .int .i64 xn, .int .u64 (xu : Int), .string ⟨xs.toArray⟩, .slice A1 xan c1, .slice A k c]) (by simp [results, Tryz.results53, go_sem, r0, r1, r2, r3, r4, r5]) rfl ?_
        have hF9 := fr_set6 w8 br (.int .i64 xk) (.int .i64 xn) (.int .u64 (xu : Int)) (.string ⟨xs.toArray⟩) (.slice A1 xan c1) (.slice A k c)
        generalize (((((w8.setCell ⟨br, 0, none⟩ (.int .i64 xk)).setCell ⟨br, 1, none⟩ (.int .i64 xn)).setCell ⟨br, 2, none⟩ (.int .u64 (xu : Int))).setCell ⟨br, 3, none⟩ (.string ⟨xs.toArray⟩)).setCell ⟨br, 4, none⟩ (.slice A1 xan c1)).setCell ⟨br, 5, none⟩ (.slice A k c) = w9 at hF9 ⊢
        have hC8 := HC.out
        have hS := HKS.out
        have hb1 := HT.out
        have hs1 := HS1.out
        have hs2 := HS2.out
        have hs8 := HF8.out.size
        have hs9 := hF9.size
        have hsr := HSR.out
        have hbw := HB2.out.size
        have hAl : ∀ ad, A = some ad → w3.heap.size ≤ ad.block ∧ ad.block < wr.heap.size := fun ad e => (hC8.own.addr ad e).2
        have hnb : ∀ b, b < wr.heap.size → b ≠ bt → b ≠ br → w9.heap[b]? = wr.heap[b]? := fun b h1 h2 h3 => (hF9.block b (by omega) (by omega)).trans (HF8.out.block b h1 (by omega))
        have hlv : us.length = k := hC8.own.1
        refine ⟨⟨xk, xn, xu, xs, A1, xan, c1, A, k, c⟩, rfl, NodeX.mk (x := ⟨xk, xn, xu, xs, A1, xan, c1, A, k, c⟩) q ⟨HKR.out.1, ?_⟩ (fun ad e => ⟨?_, fun i hi => ?_⟩) HCAP.out hxa (ownt_by (hC8.own.rebase (Nat.zero_le _)) fun ad e => ?_) (fun ad e => ⟨?_, hC8.off ad e⟩) hxb (fun a b ea eb => ?_) (fun i b hb => ?_) hC8.apart (by rw [hlv, ← HBN.out]; exact HVL.out) (fun i v t hv ht => (hC8.kids i v t hv ht).keep fun b hb => ?_), below_fr HB8.out hF9 (by rintro j rfl; omega)⟩
        · exact (HKR.out.2.fr HF8.out (fun ad e => by have := hS.2 ad e; omega)).fr hF9 (fun ad e => by have := hS.2 ad e; omega)
        · have := hS.2 ad e
          omega
        · have := hS.2 ad e
          have := hC8.lt i _ hi
          omega
        · have := hAl ad e
          exact hnb _ (by omega) (by omega) (by omega)
        · have := hAl ad e
          omega
        · have := hS.2 a ea
          have := hAl b eb
          omega
        · have := hC8.lt i b hb
          omega
        · have := hC8.lt i b hb
          exact hnb _ (by omega) (by omega) (by omega)
end Go.Proofs.YtfoifdoaleaekaaGreat
