/-
  ListNumbers, plain: integers in a vector of a built document. No program in sight.
  Package key, plain: places that put the keys in order give the sorted tree; a checked tree, sorted, is what calls asks for. No program in sight.
  Package encode: told.
-/
import Derived.Test.YtfoifdoaleaekaaGreatQg19
namespace Go.Proofs.YtfoifdoaleaekaaGreat
open Go.Acc
theorem elt_may {L : List UInt8} {a : Int} {w : Nat} {t : Int} (ht : isS t = true) (hi : inlineT t = true) (hm : mayE L.length a w t w = 0) : plcE L a w t w = 0 ∧ plcA L a w t w = a ∧ plcW L a w t w = w := by
  have hp : plcE L a w t w = 0 := by
    unfold plcE
    rw [if_neg (by rw [hm]; decide), if_neg (by rw [ht]; decide), if_pos hi]
  refine ⟨hp, ?_, ?_⟩
  · unfold plcA
    rw [if_pos hp, if_pos hi]
  · unfold plcW
    rw [if_pos hp, if_pos hi]
theorem elt_int {L : List UInt8} {a n : Int} {w : Nat} (hw : isW (w : Int) = true) (hb : bWidthI n ≤ w) (hn : -9223372036854775808 ≤ n ∧ n ≤ 9223372036854775807) (hl : loadU L a w = bits n % 2 ^ (8 * w)) (hm : mayE L.length a w 1 w = 0) :
    intV L a w 1 w = n ∧ intE L a w 1 w = 0 := by
  obtain ⟨hp, hA, hW⟩ := elt_may (t := 1) (by decide) (by decide) hm
  have hin := inB_iff.1 (mayE_ok.1 hm).2
  have e : loadI L a w = n := by
    unfold loadI
    rw [if_pos ⟨hw, hin.1, hin.2.2⟩, hl, show (w : Int).toNat = w from rfl]
    exact sx_of hw hb hn
  have hN : scN L a w 1 w = decide (n < 0) := by
    unfold scN rdN
    rw [hp, hA, hW, e]
    simp
  have hU : scU L a w 1 w = n.natAbs := by
    unfold scU rdU
    rw [if_pos hp, hA, hW, e, if_neg (by decide), if_neg (by decide), if_pos (by decide)]
  refine ⟨?_, ?_⟩
  · unfold intV
    rw [hN, hU]
    by_cases h0 : n < 0
    · rw [if_pos (decide_eq_true h0)]
      omega
    · rw [if_neg (by simpa using h0), if_neg (by unfold top63; simp; omega)]
      omega
  · unfold intE
    rw [if_neg (by rw [hp]; decide), hN, hU]
    by_cases h0 : n < 0
    · rw [if_pos (decide_eq_true h0)]
    · rw [if_neg (by simpa using h0), if_neg (by unfold top63; simp; omega)]
theorem elt_uint {L : List UInt8} {a : Int} {u w : Nat} (hw : isW (w : Int) = true) (hb : bWidth u ≤ w) (hu : u < 18446744073709551616) (hl : loadU L a w = u % 2 ^ (8 * w)) (hm : mayE L.length a w 2 w = 0) :
    uintV L a w 2 w = u ∧ uintE L a w 2 w = 0 := by
  obtain ⟨hp, hA, hW⟩ := elt_may (t := 2) (by decide) (by decide) hm
  have hN : scN L a w 2 w = false := by
    unfold scN rdN
    rw [hp]
    simp
  have hU : scU L a w 2 w = u := by
    unfold scU rdU
    rw [if_pos hp, hA, hW, hl, if_neg (by decide), if_neg (by decide), if_neg (by decide)]
    exact low_of hw hb hu
  refine ⟨?_, ?_⟩
  · unfold uintV
    rw [hN, hU]
    rfl
  · unfold uintE
    rw [if_neg (by rw [hp]; decide), hN]
    rfl
def leafI (n : Int) : Tr := .mk 3 n 0 [] [] []
def leafU (u : Nat) : Tr := .mk 4 0 u [] [] []
theorem rep_ints {l : List UInt8} {v : Bv} {K : Int} {ns : List Int} (hK : K = 10 ∨ K = 11 ∨ K = 15) (h : Rep l v (.mk K 0 0 [] [] (ns.map leafI))) (hf : K = 15 → ns.length = 2 ∨ ns.length = 3 ∨ ns.length = 4) (hb : l.length < 2 ^ 32) (x : List UInt8) (h8 : x.length % 8 = 0) :
    LstIn (x ++ l) x.length (ns.map numV) v ∧ inlineT (v.t : Int) = false ∧ (tagT (v.t : Int) = false → elemT (v.t : Int) = 1) := by
  have hm : (ns.map leafI).map (fun t => numV t.n) = ns.map numV := by rw [List.map_map]; rfl
  rcases hK with rfl | rfl | rfl
  · cases h with
    | @vec _ _ vs _ _ _ _ hl hr h =>
      have e : vs = ns.map numV := by
        apply List.ext_getElem?
        intro i
        by_cases hi : i < vs.length
        · have hin : i < ns.length := by rw [List.length_map] at hl; omega
          have h1 := hr i vs[i] (leafI ns[i]) (List.getElem?_eq_getElem hi) (by rw [List.getElem?_map, List.getElem?_eq_getElem hin]; rfl)
          rw [List.getElem?_eq_getElem hi, List.getElem?_map, List.getElem?_eq_getElem hin]
          unfold leafI at h1
          generalize vs[i] = y at h1
          cases h1 with
          | int => rfl
        · rw [List.getElem?_eq_none (by omega), List.getElem?_eq_none (by rw [List.length_map] at hl ⊢; omega)]
      subst e
      exact ⟨vec_list h hb x h8 (.inl ⟨rfl, rfl⟩), by rw [h.width.1]; decide, by rw [h.width.1]; decide⟩
  · cases h with
    | ints _ _ _ _ h =>
      rw [hm] at h
      exact ⟨vec_list h hb x h8 (.inr ⟨.inl rfl, rfl⟩), by rw [h.width.1]; decide, by rw [h.width.1]; decide⟩
  · cases h with
    | fixInts _ _ _ _ h =>
      have hn := hf rfl
      rw [hm, List.length_map] at h
      obtain ⟨⟨m1, _⟩, _, _⟩ := many_fix hn
      refine ⟨fix_list h hb x h8 (by rcases hn with h | h | h <;> rw [h] <;> simp) (by rw [List.length_map]; exact m1), ?_, ?_⟩
      · rw [h.width.1]; rcases hn with h | h | h <;> rw [h] <;> decide
      · rw [h.width.1]; rcases hn with h | h | h <;> rw [h] <;> decide
theorem rep_uints {l : List UInt8} {v : Bv} {K : Int} {us : List Nat} (hK : K = 10 ∨ K = 12 ∨ K = 16) (h : Rep l v (.mk K 0 0 [] [] (us.map leafU))) (hf : K = 16 → us.length = 2 ∨ us.length = 3 ∨ us.length = 4) (hb : l.length < 2 ^ 32) (x : List UInt8) (h8 : x.length % 8 = 0) :
    LstIn (x ++ l) x.length (us.map unsV) v ∧ inlineT (v.t : Int) = false ∧ (tagT (v.t : Int) = false → elemT (v.t : Int) = 2) := by
  have hm : (us.map leafU).map (fun t => unsV t.u) = us.map unsV := by rw [List.map_map]; rfl
  rcases hK with rfl | rfl | rfl
  · cases h with
    | @vec _ _ vs _ _ _ _ hl hr h =>
      have e : vs = us.map unsV := by
        apply List.ext_getElem?
        intro i
        by_cases hi : i < vs.length
        · have hin : i < us.length := by rw [List.length_map] at hl; omega
          have h1 := hr i vs[i] (leafU us[i]) (List.getElem?_eq_getElem hi) (by rw [List.getElem?_map, List.getElem?_eq_getElem hin]; rfl)
          rw [List.getElem?_eq_getElem hi, List.getElem?_map, List.getElem?_eq_getElem hin]
          unfold leafU at h1
          generalize vs[i] = y at h1
          cases h1 with
          | uint => rfl
        · rw [List.getElem?_eq_none (by omega), List.getElem?_eq_none (by rw [List.length_map] at hl ⊢; omega)]
      subst e
      exact ⟨vec_list h hb x h8 (.inl ⟨rfl, rfl⟩), by rw [h.width.1]; decide, by rw [h.width.1]; decide⟩
  · cases h with
    | uints _ _ _ _ h =>
      rw [hm] at h
      exact ⟨vec_list h hb x h8 (.inr ⟨.inr (.inl rfl), rfl⟩), by rw [h.width.1]; decide, by rw [h.width.1]; decide⟩
  · cases h with
    | fixUints _ _ _ _ h =>
      have hn := hf rfl
      rw [hm, List.length_map] at h
      obtain ⟨⟨_, m1⟩, _, _⟩ := many_fix hn
      refine ⟨fix_list h hb x h8 (by rcases hn with h | h | h <;> rw [h] <;> simp) (by rw [List.length_map]; exact m1), ?_, ?_⟩
      · rw [h.width.1]; rcases hn with h | h | h <;> rw [h] <;> decide
      · rw [h.width.1]; rcases hn with h | h | h <;> rw [h] <;> decide
theorem inl_elem {L : List UInt8} {s : Nat} {vs : List Bv} {v : Bv} {p q : Int} {T : Nat} (h : LstIn L s vs v) (r : Leads L s v p q) {i : Nat} {y : Bv} (hy : vs[i]? = some y) (hT : y.t = T) (hi : inlineT (T : Int) = true) (hl : legalT (T : Int) = true) (hyw : isW (y.w : Int) = true) (he : tagT (v.t : Int) = false → elemT (v.t : Int) = T) :
    atE L p q (v.t : Int) (v.w : Int) (i : Int) = 0 ∧ atQ L p q (v.t : Int) (v.w : Int) (i : Int) = (v.w : Int) ∧ atT L p q (v.t : Int) (v.w : Int) (i : Int) = (T : Int) ∧ atV L p q (v.t : Int) (v.w : Int) (i : Int) = (v.w : Int) ∧
      mayE L.length (atP L p q (v.t : Int) (v.w : Int) (i : Int)) (v.w : Int) (T : Int) (v.w : Int) = 0 ∧ loadU L (atP L p q (v.t : Int) (v.w : Int) (i : Int)) (v.w : Int) = y.n % 2 ^ (8 * v.w) ∧ y.w ≤ v.w := by
  obtain ⟨a1, a2, a3, a4, a5⟩ := lst_at h r hy (fun _ => ⟨by rw [hT]; exact hl, hyw⟩)
  obtain ⟨e1, e2⟩ := h.el i y hy
  have hiy : inl y.t = true := by rw [hT]; exact hi
  have hle := e1.le
  rw [leBytes_length] at hle
  have ho : ownW v.w y = v.w := by unfold ownW; rw [if_pos hiy]
  refine ⟨a1, a3, ?_, ?_, ?_, ?_, e2.1 hiy⟩
  · rw [a4]
    by_cases ht : tagT (v.t : Int) = true
    · rw [if_pos ht, hT]
    · rw [if_neg ht]
      exact he (by simpa using ht)
  · rw [a5, ho]
    split <;> rfl
  · rw [a2]
    refine mayE_ok.2 ⟨formed_iff.2 ⟨hl, h.w, h.w⟩, inB_iff.2 ⟨by omega, by omega, by omega⟩⟩
  · rw [a2, e1.load h.w, leVal_leBytes]
    unfold elemN
    rw [if_pos hiy, Nat.mod_mod]
end Go.Proofs.YtfoifdoaleaekaaGreat

namespace Go.Proofs.YtfoifdoaleaekaaGreat
open Go.Acc
theorem sort_uniq {a b : List (List UInt8 × Tr)} (hp : a.Perm b) (ha : a.Pairwise (fun x y => x.1 < y.1)) (hb : b.Pairwise (fun x y => x.1 < y.1)) : a = b :=
  hp.eq_of_pairwise (fun _ _ _ _ h h' => absurd h' (List.lt_asymm h)) ha hb
theorem sort_ps {n : Nat} {ps : List Nat} (ks : List (List UInt8)) (c : List Tr) (d : Tr) (hk : ks.length = n) (hc : c.length = n) (hd : ks.Nodup) (hp : ps.Perm (List.range n)) (ha : ∀ (i j : Nat) (hi : i < ps.length) (hj : j < ps.length), i < j → ks.getD ps[i] [] < ks.getD ps[j] []) :
    ps.map (fun p => (ks.getD p [], c.getD p d)) = sortE (ks.zip c) := by
  have hz : (List.range n).map (fun p => (ks.getD p [], c.getD p d)) = ks.zip c := by
    apply List.ext_getElem
    · simp [hk, hc]
    · intro i h1 h2
      have hi : i < n := by simpa using h1
      simp only [List.getElem_map, List.getElem_range, List.getElem_zip]
      rw [List.getD_eq_getElem?_getD, List.getElem?_eq_getElem (by omega), List.getD_eq_getElem?_getD, List.getElem?_eq_getElem (by omega)]
      rfl
  refine sort_uniq ?_ ?_ (sortE_up _ ?_)
  · have h1 := hp.map (fun p => (ks.getD p [], c.getD p d))
    rw [hz] at h1
    exact h1.trans (sortE_perm _).symm
  · rw [List.pairwise_iff_getElem]
    intro i j hi hj hij
    rw [List.getElem_map, List.getElem_map]
    exact ha i j (by simpa using hi) (by simpa using hj) hij
  · rw [List.map_fst_zip (by omega)]
    exact hd
inductive NumT : Tr → Prop
  | mk {k n : Int} {u : Nat} {s : List UInt8} {ks : List (List UInt8)} {l : List Tr} (h1 : -9223372036854775808 ≤ n ∧ n ≤ 9223372036854775807) (h2 : u < 18446744073709551616) (h : ∀ t ∈ l, NumT t) : NumT (.mk k n u s ks l)
theorem sort_nus (t : Tr) : (sortT t).n = t.n ∧ (sortT t).u = t.u ∧ (sortT t).s = t.s := by
  obtain ⟨k, n, u, s, ks, l⟩ := t
  rw [sortT]
  split <;> exact ⟨rfl, rfl, rfl⟩
theorem costL_perm {a b : List Tr} (h : a.Perm b) : Tr.costL a = Tr.costL b := by
  induction h with
  | nil => rfl
  | cons x _ ih => rw [Tr.costL, Tr.costL, ih]
  | swap x y l => rw [Tr.costL, Tr.costL, Tr.costL, Tr.costL]; omega
  | trans _ _ h1 h2 => exact h1.trans h2
theorem keysCost_perm {a b : List (List UInt8)} (h : a.Perm b) : keysCost a = keysCost b := by
  induction h with
  | nil => rfl
  | cons x _ ih => rw [keysCost, keysCost, ih]
  | swap x y l => rw [keysCost, keysCost, keysCost, keysCost]; omega
  | trans _ _ h1 h2 => exact h1.trans h2
mutual
theorem cost_sort : ∀ (t : Tr), Val t → (sortT t).cost = t.cost
  | .mk k n u s ks l, h => by
    cases h with
    | mk h1 h2 h3 h4 hl =>
      have ih := costL_sort l hl
      simp only [suchT, Bool.and_eq_true, decide_eq_true_eq] at h1
      obtain ⟨⟨⟨_, glen⟩, _⟩, _⟩ := h1
      rw [sortT]
      by_cases hk : k = 17
      · rw [if_pos hk]
        have glen : ks.length = l.length := glen hk
        have hll : (sortL l).length = l.length := by rw [sortL_map, List.length_map]
        have hp := sortE_perm (ks.zip (sortL l))
        have e1 := keysCost_perm (hp.map (·.1))
        have e2 := costL_perm (hp.map (·.2))
        rw [List.map_fst_zip (by omega)] at e1
        rw [List.map_snd_zip (by omega)] at e2
        rw [Tr.cost, Tr.cost, e1, e2, ih]
      · rw [if_neg hk, Tr.cost, Tr.cost, ih]
theorem costL_sort : ∀ (l : List Tr), (∀ t ∈ l, Val t) → Tr.costL (sortL l) = Tr.costL l
  | [], _ => rfl
  | t :: r, h => by
    rw [sortL, Tr.costL, Tr.costL, cost_sort t (h t (by simp)), costL_sort r (fun x hx => h x (by simp [hx]))]
end
mutual
/-- A tree has no more nodes than its cost. -/
theorem pre_cost : ∀ (t : Tr) (d : Nat), (Tr.pre d t).length ≤ t.cost
  | .mk k n u s ks l, d => by
    have := preL_cost l (d + 1)
    rw [Tr.pre, Tr.cost, List.length_cons]
    omega
theorem preL_cost : ∀ (l : List Tr) (d : Nat), (Tr.pre.Tr.preL d l).length ≤ Tr.costL l
  | [], _ => by simp [Tr.pre.Tr.preL]
  | t :: r, d => by
    have h1 := pre_cost t d
    have h2 := preL_cost r d
    rw [Tr.pre.Tr.preL, Tr.costL, List.length_append]
    omega
end
theorem costL_mem : ∀ {l : List Tr} {t : Tr}, t ∈ l → t.cost + 40 ≤ Tr.costL l
  | [], _, h => by simp at h
  | x :: r, t, h => by
    rw [Tr.costL]
    rcases List.mem_cons.1 h with rfl | h
    · omega
    · have := costL_mem h
      omega
theorem keysCost_mem : ∀ (l : List (List UInt8)) (s : List UInt8), s ∈ l → s.length ≤ keysCost l
  | [], _, h => by simp at h
  | x :: r, s, h => by
    rw [keysCost]
    rcases List.mem_cons.1 h with rfl | h
    · omega
    · have := keysCost_mem r s h
      omega
mutual
theorem pre_keys : ∀ (t : Tr) (d : Nat) (y : Nat × Tr), y ∈ Tr.pre d t → ∀ s ∈ y.2.ks, s.length ≤ t.cost
  | .mk k n u s ks l, d, y, hy, z, hz => by
    rw [Tr.pre] at hy
    rw [Tr.cost]
    rcases List.mem_cons.1 hy with rfl | hy
    · have := keysCost_mem ks z hz
      omega
    · have := preL_keys l (d + 1) y hy z hz
      omega
theorem preL_keys : ∀ (l : List Tr) (d : Nat) (y : Nat × Tr), y ∈ Tr.pre.Tr.preL d l → ∀ s ∈ y.2.ks, s.length ≤ Tr.costL l
  | [], _, y, hy, _, _ => by simp [Tr.pre.Tr.preL] at hy
  | t :: r, d, y, hy, z, hz => by
    rw [Tr.pre.Tr.preL] at hy
    rw [Tr.costL]
    rcases List.mem_append.1 hy with h | h
    · have := pre_keys t d y h z hz
      omega
    · have := preL_keys r d y h z hz
      omega
end
end Go.Proofs.YtfoifdoaleaekaaGreat

namespace Go.Proofs.YtfoifdoaleaekaaGreat
open Go.RowKit Go.Acc
def nbc (x : Int) : List Value := [.int .i64 x]
def ubc (x : Nat) : List Value := [.int .u64 (x : Int)]
def bbc (x : Bool) : List Value := [.bool x]
theorem one_cell {u : Value} (h : u.oneCell' = true) : ∀ v ∈ [u], v.oneCell' = true := by
  intro v hv
  simp at hv
  subst hv
  exact h
theorem is_one {α : Type} {f : α → List Value} (W : World) (t : TypeId) (x : α) (u : Value) (h : f x = [u]) : Is f (W.alloc (.cells #[u] t)) (some ⟨W.heap.size, 0, none⟩) 1 [x] := by
  refine ⟨rfl, fun j y hy => ⟨_, _, rfl, ?_⟩⟩
  rw [Nat.zero_add, (Blk.new W t _).cell j]
  have e : [x].flatMap f = [u] := by simp [h]
  rw [e] at hy
  simpa using hy
theorem info_n : (Tryz.prog.info? 2).map (fun i => (i.zero, i.size, i.bytes)) = some (some (.int .i64 0), 1, 8) := by kernel_rfl
theorem info_u : (Tryz.prog.info? 22).map (fun i => (i.zero, i.size, i.bytes)) = some (some (.int .u64 0), 1, 8) := by kernel_rfl
theorem info_bo : (Tryz.prog.info? 4).map (fun i => (i.zero, i.size, i.bytes)) = some (some (.bool false), 1, 1) := by kernel_rfl
theorem info_st : (Tryz.prog.info? 9).map (fun i => (i.zero, i.size, i.bytes)) = some (some (.string ⟨#[]⟩), 1, 16) := by kernel_rfl
theorem enum_spec (x : Nv) (w : World) : Calls Tryz.prog 106 #[.agg #[.int .i64 x.k, .int .i64 x.n, .int .u64 (x.u : Int), .string ⟨x.s.toArray⟩, .slice x.A x.an x.ac, .slice x.B x.bn x.bc]] w fun e w' => e = .returned (.int .i64 x.n) ∧ Below w.heap.size w w' := by
  go_enter Tryz.func106, Tryz.ntmps106
  go_wp2_with fail
  go_ret
  exact ⟨rfl, (Below.refl _ _).alloc (Nat.le_refl _) _⟩
theorem euns_spec (x : Nv) (w : World) : Calls Tryz.prog 109 #[.agg #[.int .i64 x.k, .int .i64 x.n, .int .u64 (x.u : Int), .string ⟨x.s.toArray⟩, .slice x.A x.an x.ac, .slice x.B x.bn x.bc]] w fun e w' => e = .returned (.int .u64 (x.u : Int)) ∧ Below w.heap.size w w' := by
  go_enter Tryz.func109, Tryz.ntmps109
  go_wp2_with fail
  go_ret
  exact ⟨rfl, (Below.refl _ _).alloc (Nat.le_refl _) _⟩
theorem etext_spec (x : Nv) (w : World) : Calls Tryz.prog 115 #[.agg #[.int .i64 x.k, .int .i64 x.n, .int .u64 (x.u : Int), .string ⟨x.s.toArray⟩, .slice x.A x.an x.ac, .slice x.B x.bn x.bc]] w fun e w' => e = .returned (.string ⟨x.s.toArray⟩) ∧ Below w.heap.size w w' := by
  go_enter Tryz.func115, Tryz.ntmps115
  go_wp2_with fail
  go_ret
  exact ⟨rfl, (Below.refl _ _).alloc (Nat.le_refl _) _⟩
theorem eyes_spec (x : Nv) (w : World) : Calls Tryz.prog 112 #[.agg #[.int .i64 x.k, .int .i64 x.n, .int .u64 (x.u : Int), .string ⟨x.s.toArray⟩, .slice x.A x.an x.ac, .slice x.B x.bn x.bc]] w fun e w' => e = .returned (.bool (decide (x.n = 1))) ∧ Below w.heap.size w w' := yes_spec x.k x.n x.u x.s x.A x.an x.ac x.B x.bn x.bc w
def ToldW {α : Type} (f : α → List Value) (t : TypeId) (w : World) (n : Nat) (l : List α) (e : Ending) (w' : World) : Prop :=
  ∃ A c, e = .returned (.slice A n c) ∧ Go.Acc.Own f 1 t w' w.heap.size A n c l ∧ Below w.heap.size w w'
set_option maxRecDepth 100000 in
set_option maxHeartbeats 2000000 in
theorem toldn_spec (x : Nv) (vs : List Nv) (w : World) (hI : IsN w x.B x.bn vs) (hn : x.bn ≤ 1000000) : Calls Tryz.prog 105 #[.agg #[.int .i64 x.k, .int .i64 x.n, .int .u64 (x.u : Int), .string ⟨x.s.toArray⟩, .slice x.A x.an x.ac, .slice x.B x.bn x.bc], .func (.func 106) #[] #[]] w (ToldW nbc 2 w x.bn (vs.map Nv.n)) := by
  have HI := Lib.hid hI
  have HB0 := Lib.hid (show Below w.heap.size w (w.alloc (.cells #[.int .i64 x.k, .int .i64 x.n, .int .u64 (x.u : Int), .string ⟨x.s.toArray⟩, .slice x.A x.an x.ac, .slice x.B x.bn x.bc] 26)) from (Below.refl _ _).alloc (Nat.le_refl _) _)
  have HL := Lib.hid hI.1
  clear hI
  go_enter Tryz.func105, Tryz.ntmps105
  go_wp2_with fail
  go_loopw [4, 10] (fun s u wr => ∃ k : Nat, k ≤ x.bn ∧ u = .int .i64 k ∧ ∃ A c, s = .slice A k c ∧ Go.Acc.Own nbc 1 2 wr w.heap.size A k c ((vs.take k).map Nv.n) ∧ Below w.heap.size w wr) (fun _ u _ => x.bn - (intOf u).toNat)
  case atStart => exact ⟨0, Nat.zero_le _, rfl, none, 0, rfl, Own.nil _ _, HB0.out⟩
  case round =>
    obtain ⟨k, hk, rfl, A, c, rfl, ho, hbr⟩ := hrel
    have HO := Lib.hid ho
    have HBR := Lib.hid hbr
    have hIr := HI.out.pure hbr
    clear ho hbr HB0
    by_cases hlt : k < x.bn
    · obtain ⟨v, hv⟩ : ∃ v, vs[k]? = some v := ⟨_, List.getElem?_eq_getElem (by have := HL.out; omega)⟩
      obtain ⟨g, off, e, v0, v1, v2, v3, v4, v5⟩ := isn_at hIr hv
      have HT := Lib.hid (show (vs.take (k + 1)).map Nv.n = (vs.take k).map Nv.n ++ [v.n] by
        obtain ⟨q1, q2⟩ := List.getElem?_eq_some_iff.1 hv
        rw [List.take_succ_eq_append_getElem q1, q2, List.map_append]; rfl)
      have hk0 : (0 : Int) ≤ (k : Int) := by omega
      have hkn : (k : Int) < (x.bn : Int) := by omega
      have HBA := Lib.hid (HBR.out.alloc HBR.out.size (.cells #[.int .i64 v.k, .int .i64 v.n, .int .u64 (v.u : Int), .string ⟨v.s.toArray⟩, .slice v.A v.an v.ac, .slice v.B v.bn v.bc] 26))
      have HOA := Lib.hid (HO.out.pure ((Below.refl wr.heap.size wr).alloc (Nat.le_refl _) (.cells #[.int .i64 v.k, .int .i64 v.n, .int .u64 (v.u : Int), .string ⟨v.s.toArray⟩, .slice v.A v.an v.ac, .slice v.B v.bn v.bc] 26)))
      rw [e]
      clear hIr hv e
      go_wp2_with fail
      go_at_call 106
      refine (enum_spec v _).mono ?_
      rintro e w2 ⟨rfl, hb⟩
      have HB2 := Lib.hid (pure_below HBA.out hb)
      have HO2 := Lib.hid (HOA.out.pure hb)
      clear hb v0 v1 v2 v3 v4 v5
      have HB3 := Lib.hid (HB2.out.alloc HB2.out.size (.cells #[.int .i64 v.n] 2))
      have HO3 := Lib.hid (HO2.out.pure ((Below.refl w2.heap.size w2).alloc (Nat.le_refl _) (.cells #[.int .i64 v.n] 2)))
      have HI3 := Lib.hid (is_one (f := nbc) w2 2 (v.n) (.int .i64 v.n) rfl)
      go_wp2_with (at_builtin; refine wpl_app _ rfl (.tmp 14) (.tmp 18) _ rfl 2 _ 1 _ Tryz.underlying166 info_n rfl (by omega) (fun _ => rfl) (fun _ => one_cell rfl) _ _ _ _ _ rfl HO3.out _ _ _ _ rfl HI3.out (by omega) HB3.out.size ?_; intro A1 c1 w1 hown1 hfr1 hat1)
      have HO4 := Lib.hid hown1
      have HB4 := Lib.hid (below_fr HB3.out hfr1 (by rintro j ⟨ad, e, rfl⟩; exact (HO3.out.addr ad e).2.1))
      clear hown1 hfr1 hat1
      go_wp2_with fail
      go_roundw
      case rel => exact ⟨k + 1, by omega, by go_num, A1, c1, rfl, by rw [HT.out]; exact HO4.out, HB4.out⟩
      case measure => simp [intOf]; omega
    · obtain rfl : k = x.bn := by omega
      have HE := Lib.hid (show vs.take x.bn = vs from List.take_of_length_le (by have := HL.out; omega))
      rw [HE.out] at HO
      clear hIr
      go_wp2_with fail
      go_ret
      exact ⟨A, c, rfl, HO.out, HBR.out⟩
set_option maxRecDepth 100000 in
set_option maxHeartbeats 2000000 in
theorem toldu_spec (x : Nv) (vs : List Nv) (w : World) (hI : IsN w x.B x.bn vs) (hn : x.bn ≤ 1000000) : Calls Tryz.prog 108 #[.agg #[.int .i64 x.k, .int .i64 x.n, .int .u64 (x.u : Int), .string ⟨x.s.toArray⟩, .slice x.A x.an x.ac, .slice x.B x.bn x.bc], .func (.func 109) #[] #[]] w (ToldW ubc 22 w x.bn (vs.map Nv.u)) := by
  have HI := Lib.hid hI
  have HB0 := Lib.hid (show Below w.heap.size w (w.alloc (.cells #[.int .i64 x.k, .int .i64 x.n, .int .u64 (x.u : Int), .string ⟨x.s.toArray⟩, .slice x.A x.an x.ac, .slice x.B x.bn x.bc] 26)) from (Below.refl _ _).alloc (Nat.le_refl _) _)
  have HL := Lib.hid hI.1
  clear hI
  go_enter Tryz.func108, Tryz.ntmps108
  go_wp2_with fail
  go_loopw [4, 10] (fun s u wr => ∃ k : Nat, k ≤ x.bn ∧ u = .int .i64 k ∧ ∃ A c, s = .slice A k c ∧ Go.Acc.Own ubc 1 22 wr w.heap.size A k c ((vs.take k).map Nv.u) ∧ Below w.heap.size w wr) (fun _ u _ => x.bn - (intOf u).toNat)
  case atStart => exact ⟨0, Nat.zero_le _, rfl, none, 0, rfl, Own.nil _ _, HB0.out⟩
  case round =>
    obtain ⟨k, hk, rfl, A, c, rfl, ho, hbr⟩ := hrel
    have HO := Lib.hid ho
    have HBR := Lib.hid hbr
    have hIr := HI.out.pure hbr
    clear ho hbr HB0
    by_cases hlt : k < x.bn
    · obtain ⟨v, hv⟩ : ∃ v, vs[k]? = some v := ⟨_, List.getElem?_eq_getElem (by have := HL.out; omega)⟩
      obtain ⟨g, off, e, v0, v1, v2, v3, v4, v5⟩ := isn_at hIr hv
      have HT := Lib.hid (show (vs.take (k + 1)).map Nv.u = (vs.take k).map Nv.u ++ [v.u] by
        obtain ⟨q1, q2⟩ := List.getElem?_eq_some_iff.1 hv
        rw [List.take_succ_eq_append_getElem q1, q2, List.map_append]; rfl)
      have hk0 : (0 : Int) ≤ (k : Int) := by omega
      have hkn : (k : Int) < (x.bn : Int) := by omega
      have HBA := Lib.hid (HBR.out.alloc HBR.out.size (.cells #[.int .i64 v.k, .int .i64 v.n, .int .u64 (v.u : Int), .string ⟨v.s.toArray⟩, .slice v.A v.an v.ac, .slice v.B v.bn v.bc] 26))
      have HOA := Lib.hid (HO.out.pure ((Below.refl wr.heap.size wr).alloc (Nat.le_refl _) (.cells #[.int .i64 v.k, .int .i64 v.n, .int .u64 (v.u : Int), .string ⟨v.s.toArray⟩, .slice v.A v.an v.ac, .slice v.B v.bn v.bc] 26)))
      rw [e]
      clear hIr hv e
      go_wp2_with fail
      go_at_call 109
      refine (euns_spec v _).mono ?_
      rintro e w2 ⟨rfl, hb⟩
      have HB2 := Lib.hid (pure_below HBA.out hb)
      have HO2 := Lib.hid (HOA.out.pure hb)
      clear hb v0 v1 v2 v3 v4 v5
      have HB3 := Lib.hid (HB2.out.alloc HB2.out.size (.cells #[.int .u64 (v.u : Int)] 22))
      have HO3 := Lib.hid (HO2.out.pure ((Below.refl w2.heap.size w2).alloc (Nat.le_refl _) (.cells #[.int .u64 (v.u : Int)] 22)))
      have HI3 := Lib.hid (is_one (f := ubc) w2 22 (v.u) (.int .u64 (v.u : Int)) rfl)
      go_wp2_with (at_builtin; refine wpl_app _ rfl (.tmp 14) (.tmp 18) _ rfl 22 _ 1 _ Tryz.underlying49 info_u rfl (by omega) (fun _ => rfl) (fun _ => one_cell rfl) _ _ _ _ _ rfl HO3.out _ _ _ _ rfl HI3.out (by omega) HB3.out.size ?_; intro A1 c1 w1 hown1 hfr1 hat1)
      have HO4 := Lib.hid hown1
      have HB4 := Lib.hid (below_fr HB3.out hfr1 (by rintro j ⟨ad, e, rfl⟩; exact (HO3.out.addr ad e).2.1))
      clear hown1 hfr1 hat1
      go_wp2_with fail
      go_roundw
      case rel => exact ⟨k + 1, by omega, by go_num, A1, c1, rfl, by rw [HT.out]; exact HO4.out, HB4.out⟩
      case measure => simp [intOf]; omega
    · obtain rfl : k = x.bn := by omega
      have HE := Lib.hid (show vs.take x.bn = vs from List.take_of_length_le (by have := HL.out; omega))
      rw [HE.out] at HO
      clear hIr
      go_wp2_with fail
      go_ret
      exact ⟨A, c, rfl, HO.out, HBR.out⟩
set_option maxRecDepth 100000 in
set_option maxHeartbeats 2000000 in
theorem toldb_spec (x : Nv) (vs : List Nv) (w : World) (hI : IsN w x.B x.bn vs) (hn : x.bn ≤ 1000000) : Calls Tryz.prog 111 #[.agg #[.int .i64 x.k, .int .i64 x.n, .int .u64 (x.u : Int), .string ⟨x.s.toArray⟩, .slice x.A x.an x.ac, .slice x.B x.bn x.bc], .func (.func 112) #[] #[]] w (ToldW bbc 4 w x.bn (vs.map fun v : Nv => decide (v.n = 1))) := by
  have HI := Lib.hid hI
  have HB0 := Lib.hid (show Below w.heap.size w (w.alloc (.cells #[.int .i64 x.k, .int .i64 x.n, .int .u64 (x.u : Int), .string ⟨x.s.toArray⟩, .slice x.A x.an x.ac, .slice x.B x.bn x.bc] 26)) from (Below.refl _ _).alloc (Nat.le_refl _) _)
  have HL := Lib.hid hI.1
  clear hI
  go_enter Tryz.func111, Tryz.ntmps111
  go_wp2_with fail
  go_loopw [4, 10] (fun s u wr => ∃ k : Nat, k ≤ x.bn ∧ u = .int .i64 k ∧ ∃ A c, s = .slice A k c ∧ Go.Acc.Own bbc 1 4 wr w.heap.size A k c ((vs.take k).map (fun v : Nv => decide (v.n = 1))) ∧ Below w.heap.size w wr) (fun _ u _ => x.bn - (intOf u).toNat)
  case atStart => exact ⟨0, Nat.zero_le _, rfl, none, 0, rfl, Own.nil _ _, HB0.out⟩
  case round =>
    obtain ⟨k, hk, rfl, A, c, rfl, ho, hbr⟩ := hrel
    have HO := Lib.hid ho
    have HBR := Lib.hid hbr
    have hIr := HI.out.pure hbr
    clear ho hbr HB0
    by_cases hlt : k < x.bn
    · obtain ⟨v, hv⟩ : ∃ v, vs[k]? = some v := ⟨_, List.getElem?_eq_getElem (by have := HL.out; omega)⟩
      obtain ⟨g, off, e, v0, v1, v2, v3, v4, v5⟩ := isn_at hIr hv
      have HT := Lib.hid (show (vs.take (k + 1)).map (fun v : Nv => decide (v.n = 1)) = (vs.take k).map (fun v : Nv => decide (v.n = 1)) ++ [decide (v.n = 1)] by
        obtain ⟨q1, q2⟩ := List.getElem?_eq_some_iff.1 hv
        rw [List.take_succ_eq_append_getElem q1, q2, List.map_append]; rfl)
      have hk0 : (0 : Int) ≤ (k : Int) := by omega
      have hkn : (k : Int) < (x.bn : Int) := by omega
      have HBA := Lib.hid (HBR.out.alloc HBR.out.size (.cells #[.int .i64 v.k, .int .i64 v.n, .int .u64 (v.u : Int), .string ⟨v.s.toArray⟩, .slice v.A v.an v.ac, .slice v.B v.bn v.bc] 26))
      have HOA := Lib.hid (HO.out.pure ((Below.refl wr.heap.size wr).alloc (Nat.le_refl _) (.cells #[.int .i64 v.k, .int .i64 v.n, .int .u64 (v.u : Int), .string ⟨v.s.toArray⟩, .slice v.A v.an v.ac, .slice v.B v.bn v.bc] 26)))
      rw [e]
      clear hIr hv e
      go_wp2_with fail
      go_at_call 112
      refine (eyes_spec v _).mono ?_
      rintro e w2 ⟨rfl, hb⟩
      have HB2 := Lib.hid (pure_below HBA.out hb)
      have HO2 := Lib.hid (HOA.out.pure hb)
      clear hb v0 v1 v2 v3 v4 v5
      have HB3 := Lib.hid (HB2.out.alloc HB2.out.size (.cells #[.bool (decide (v.n = 1))] 4))
      have HO3 := Lib.hid (HO2.out.pure ((Below.refl w2.heap.size w2).alloc (Nat.le_refl _) (.cells #[.bool (decide (v.n = 1))] 4)))
      have HI3 := Lib.hid (is_one (f := bbc) w2 4 (decide (v.n = 1)) (.bool (decide (v.n = 1))) rfl)
      go_wp2_with (at_builtin; refine wpl_app _ rfl (.tmp 14) (.tmp 18) _ rfl 4 _ 1 _ Tryz.underlying173 info_bo rfl (by omega) (fun _ => rfl) (fun _ => one_cell rfl) _ _ _ _ _ rfl HO3.out _ _ _ _ rfl HI3.out (by omega) HB3.out.size ?_; intro A1 c1 w1 hown1 hfr1 hat1)
      have HO4 := Lib.hid hown1
      have HB4 := Lib.hid (below_fr HB3.out hfr1 (by rintro j ⟨ad, e, rfl⟩; exact (HO3.out.addr ad e).2.1))
      clear hown1 hfr1 hat1
      go_wp2_with fail
      go_roundw
      case rel => exact ⟨k + 1, by omega, by go_num, A1, c1, rfl, by rw [HT.out]; exact HO4.out, HB4.out⟩
      case measure => simp [intOf]; omega
    · obtain rfl : k = x.bn := by omega
      have HE := Lib.hid (show vs.take x.bn = vs from List.take_of_length_le (by have := HL.out; omega))
      rw [HE.out] at HO
      clear hIr
      go_wp2_with fail
      go_ret
      exact ⟨A, c, rfl, HO.out, HBR.out⟩
set_option maxRecDepth 100000 in
set_option maxHeartbeats 2000000 in
theorem tolds_spec (x : Nv) (vs : List Nv) (w : World) (hI : IsN w x.B x.bn vs) (hn : x.bn ≤ 1000000) : Calls Tryz.prog 114 #[.agg #[.int .i64 x.k, .int .i64 x.n, .int .u64 (x.u : Int), .string ⟨x.s.toArray⟩, .slice x.A x.an x.ac, .slice x.B x.bn x.bc], .func (.func 115) #[] #[]] w (ToldW stc 9 w x.bn (vs.map Nv.s)) := by
  have HI := Lib.hid hI
  have HB0 := Lib.hid (show Below w.heap.size w (w.alloc (.cells #[.int .i64 x.k, .int .i64 x.n, .int .u64 (x.u : Int), .string ⟨x.s.toArray⟩, .slice x.A x.an x.ac, .slice x.B x.bn x.bc] 26)) from (Below.refl _ _).alloc (Nat.le_refl _) _)
  have HL := Lib.hid hI.1
  clear hI
  go_enter Tryz.func114, Tryz.ntmps114
  go_wp2_with fail
  go_loopw [4, 10] (fun s u wr => ∃ k : Nat, k ≤ x.bn ∧ u = .int .i64 k ∧ ∃ A c, s = .slice A k c ∧ Go.Acc.Own stc 1 9 wr w.heap.size A k c ((vs.take k).map Nv.s) ∧ Below w.heap.size w wr) (fun _ u _ => x.bn - (intOf u).toNat)
  case atStart => exact ⟨0, Nat.zero_le _, rfl, none, 0, rfl, Own.nil _ _, HB0.out⟩
  case round =>
    obtain ⟨k, hk, rfl, A, c, rfl, ho, hbr⟩ := hrel
    have HO := Lib.hid ho
    have HBR := Lib.hid hbr
    have hIr := HI.out.pure hbr
    clear ho hbr HB0
    by_cases hlt : k < x.bn
    · obtain ⟨v, hv⟩ : ∃ v, vs[k]? = some v := ⟨_, List.getElem?_eq_getElem (by have := HL.out; omega)⟩
      obtain ⟨g, off, e, v0, v1, v2, v3, v4, v5⟩ := isn_at hIr hv
      have HT := Lib.hid (show (vs.take (k + 1)).map Nv.s = (vs.take k).map Nv.s ++ [v.s] by
        obtain ⟨q1, q2⟩ := List.getElem?_eq_some_iff.1 hv
        rw [List.take_succ_eq_append_getElem q1, q2, List.map_append]; rfl)
      have hk0 : (0 : Int) ≤ (k : Int) := by omega
      have hkn : (k : Int) < (x.bn : Int) := by omega
      have HBA := Lib.hid (HBR.out.alloc HBR.out.size (.cells #[.int .i64 v.k, .int .i64 v.n, .int .u64 (v.u : Int), .string ⟨v.s.toArray⟩, .slice v.A v.an v.ac, .slice v.B v.bn v.bc] 26))
      have HOA := Lib.hid (HO.out.pure ((Below.refl wr.heap.size wr).alloc (Nat.le_refl _) (.cells #[.int .i64 v.k, .int .i64 v.n, .int .u64 (v.u : Int), .string ⟨v.s.toArray⟩, .slice v.A v.an v.ac, .slice v.B v.bn v.bc] 26)))
      rw [e]
      clear hIr hv e
      go_wp2_with fail
      go_at_call 115
      refine (etext_spec v _).mono ?_
      rintro e w2 ⟨rfl, hb⟩
      have HB2 := Lib.hid (pure_below HBA.out hb)
      have HO2 := Lib.hid (HOA.out.pure hb)
      clear hb v0 v1 v2 v3 v4 v5
      have HB3 := Lib.hid (HB2.out.alloc HB2.out.size (.cells #[.string ⟨v.s.toArray⟩] 9))
      have HO3 := Lib.hid (HO2.out.pure ((Below.refl w2.heap.size w2).alloc (Nat.le_refl _) (.cells #[.string ⟨v.s.toArray⟩] 9)))
      have HI3 := Lib.hid (is_one (f := stc) w2 9 (v.s) (.string ⟨v.s.toArray⟩) rfl)
      go_wp2_with (at_builtin; refine wpl_app _ rfl (.tmp 14) (.tmp 18) _ rfl 9 _ 1 _ Tryz.underlying23 info_st rfl (by omega) (fun _ => rfl) (fun _ => one_cell rfl) _ _ _ _ _ rfl HO3.out _ _ _ _ rfl HI3.out (by omega) HB3.out.size ?_; intro A1 c1 w1 hown1 hfr1 hat1)
      have HO4 := Lib.hid hown1
      have HB4 := Lib.hid (below_fr HB3.out hfr1 (by rintro j ⟨ad, e, rfl⟩; exact (HO3.out.addr ad e).2.1))
      clear hown1 hfr1 hat1
      go_wp2_with fail
      go_roundw
      case rel => exact ⟨k + 1, by omega, by go_num, A1, c1, rfl, by rw [HT.out]; exact HO4.out, HB4.out⟩
      case measure => simp [intOf]; omega
    · obtain rfl : k = x.bn := by omega
      have HE := Lib.hid (show vs.take x.bn = vs from List.take_of_length_le (by have := HL.out; omega))
      rw [HE.out] at HO
      clear hIr
      go_wp2_with fail
      go_ret
      exact ⟨A, c, rfl, HO.out, HBR.out⟩
end Go.Proofs.YtfoifdoaleaekaaGreat
