/-
  Package tree: such and Check, of any tree.
  Package key: Sorted of any tree.
  ListNumbers, plain: the tree of a list of integers passes the check.
  Package list: the examples of the chapter, all together.
-/
import Derived.Test.YtfoifdoaleaekaaGreatQf32
import Derived.Test.YtfoifdoaleaekaaGreatQf34
namespace Go.Proofs.YtfoifdoaleaekaaGreat
open Go.RowKit Go.Acc
theorem any_other {w : World} {p : Nat → Prop} {vs : List Nv} {l : List Tr} {q : Int} (hl : vs.length = l.length) (hc : ∀ (i : Nat) v t, vs[i]? = some v → l[i]? = some t → NodeR w p v t) :
    (!(vs.any fun v => otherB q v.k)) = l.all fun x => decide (q = 0 ∨ x.k = q) := by
  have hk : ∀ i (h1 : i < vs.length) (h2 : i < l.length), vs[i].k = l[i].k := by
    intro i h1 h2
    exact (hc i _ _ (List.getElem?_eq_getElem h1) (List.getElem?_eq_getElem h2)).fields.1.symm
  have he : vs.map (·.k) = l.map Tr.k := by
    apply List.ext_getElem (by simpa using hl)
    intro i h1 h2
    rw [List.getElem_map, List.getElem_map]
    exact hk i _ _
  have e1 : (vs.any fun v => otherB q v.k) = (vs.map (·.k)).any (otherB q) := by rw [List.any_map]; rfl
  have e2 : (l.all fun x => decide (q = 0 ∨ x.k = q)) = (l.map Tr.k).all fun y => decide (q = 0 ∨ y = q) := by rw [List.all_map]; rfl
  rw [e1, e2, he]
  clear e1 e2 he hk hl hc
  induction l.map Tr.k with
  | nil => rfl
  | cons y r ih =>
    rw [List.any_cons, List.all_cons, Bool.not_or, ih]
    congr 1
    unfold otherB
    by_cases h1 : q = 0 <;> by_cases h2 : y = q <;> simp [h1, h2]
theorem uses_is {k : Int} (h1 : 1 ≤ k) (h17 : k ≤ 17) : k = 2 ∨ (usesK k = 1 ∧ (k = 3 ∨ k = 8)) ∨ (k = 4 ∨ k = 9) ∨ (k = 5 ∨ k = 6 ∨ k = 7) ∨ k = 17 ∨ k = 15 ∨ k = 16 ∨ (k = 1 ∨ k = 10 ∨ k = 11 ∨ k = 12 ∨ k = 13 ∨ k = 14) := by
  by_cases h : k = 3 ∨ k = 8
  · exact .inr (.inl ⟨by rcases h with rfl | rfl <;> rfl, h⟩)
  · omega
theorem ret_eq {α : World → World → Prop} {P : Program} {f : Nat} {args : Array Value} {w : World} {a b : Bool} (h : Calls P f args w fun e w' => e = .returned (.bool a) ∧ α w w') (hab : a = b) : Calls P f args w fun e w' => e = .returned (.bool b) ∧ α w w' := by
  subst hab
  exact h
theorem suchT_mk (k n : Int) (u : Nat) (s : List UInt8) (ks : List (List UInt8)) (l : List Tr) : suchT (.mk k n u s ks l) =
    (decide (1 ≤ k ∧ k ≤ 17) && decide (k = 2 ∨ k = 3 ∨ k = 8 ∨ n = 0) && decide (k = 4 ∨ k = 9 ∨ u = 0) && decide (k = 5 ∨ k = 6 ∨ k = 7 ∨ s = []) && decide (k = 17 ∨ ks = []) && decide (k = 2 → n = 0 ∨ n = 1) && decide (k = 17 → ks.length = l.length) && decide (k = 15 ∨ k = 16 → 2 ≤ l.length ∧ l.length ≤ 4) && l.all fun x => decide (partOf k = 0 ∨ x.k = partOf k)) := rfl
set_option maxHeartbeats 4000000 in
theorem such_spec {x : Nv} {t : Tr} {p : Nat → Prop} {w : World} (h : NodeR w p x t) : Calls Tryz.prog 39 #[.agg #[.int .i64 x.k, .int .i64 x.n, .int .u64 (x.u : Int), .string ⟨x.s.toArray⟩, .slice x.A x.an x.ac, .slice x.B x.bn x.bc]] w fun e w' => e = .returned (.bool (suchT t)) ∧ Below w.heap.size w w' := by
  cases h with
  | @mk _ ks l vs h1 ha hac hx h2 hb hbc hy hl hc =>
    obtain ⟨k, n, u, s, A, an, ac, B, bn, bc⟩ := x
    simp only at h1 ha hac hx h2 hb hbc hy
    have hka : ks.length = an := h1.1
    have hlb : l.length = bn := by rw [← hl]; exact h2.1
    have hk0 : (ks = []) ↔ an = 0 := by rw [← hka]; exact List.length_eq_zero_iff.symm
    have hsd : (s == []) = decide (s = []) := by cases s <;> rfl
    have hk1 : (ks = []) = (an = 0) := propext hk0
    by_cases hr : 1 ≤ k ∧ k ≤ 17
    · obtain ⟨r1, r17⟩ := hr
      have hO := fun q => any_other (q := q) hl hc
      have hbn : bn ≤ 1099511627776 := by omega
      rcases uses_is r1 r17 with rfl | ⟨hu, rfl | rfl⟩ | (rfl | rfl) | (rfl | rfl | rfl) | rfl | rfl | rfl | (rfl | rfl | rfl | rfl | rfl | rfl)
      · refine ret_eq (such_u1b 2 n u s A an ac B bn bc vs (partOf 2) w h2 hbn r1 r17 rfl rfl rfl rfl rfl rfl) ?_
        rw [hO, suchT_mk]
        generalize (l.all fun x => decide (partOf 2 = 0 ∨ x.k = partOf 2)) = al
        rw [hka, hlb]
        simp only [hk1]
        by_cases hn : n = 0 <;> by_cases hu : u = 0 <;> by_cases hs : s = [] <;> by_cases ha0 : an = 0 <;> simp [hn, hu, hs, ha0, hsd]
      · refine ret_eq (such_u1 3 n u s A an ac B bn bc vs (partOf 3) w h2 hbn r1 r17 rfl rfl rfl rfl rfl rfl) ?_
        rw [hO, suchT_mk]
        generalize (l.all fun x => decide (partOf 3 = 0 ∨ x.k = partOf 3)) = al
        rw [hka, hlb]
        simp only [hk1]
        by_cases hn : n = 0 <;> by_cases hu : u = 0 <;> by_cases hs : s = [] <;> by_cases ha0 : an = 0 <;> simp [hn, hu, hs, ha0, hsd]
      · refine ret_eq (such_u1 8 n u s A an ac B bn bc vs (partOf 8) w h2 hbn r1 r17 rfl rfl rfl rfl rfl rfl) ?_
        rw [hO, suchT_mk]
        generalize (l.all fun x => decide (partOf 8 = 0 ∨ x.k = partOf 8)) = al
        rw [hka, hlb]
        simp only [hk1]
        by_cases hn : n = 0 <;> by_cases hu : u = 0 <;> by_cases hs : s = [] <;> by_cases ha0 : an = 0 <;> simp [hn, hu, hs, ha0, hsd]
      · refine ret_eq (such_u2 4 n u s A an ac B bn bc vs (partOf 4) w h2 hbn r1 r17 rfl rfl rfl rfl rfl rfl) ?_
        rw [hO, suchT_mk]
        generalize (l.all fun x => decide (partOf 4 = 0 ∨ x.k = partOf 4)) = al
        rw [hka, hlb]
        simp only [hk1]
        by_cases hn : n = 0 <;> by_cases hu : u = 0 <;> by_cases hs : s = [] <;> by_cases ha0 : an = 0 <;> simp [hn, hu, hs, ha0, hsd]
      · refine ret_eq (such_u2 9 n u s A an ac B bn bc vs (partOf 9) w h2 hbn r1 r17 rfl rfl rfl rfl rfl rfl) ?_
        rw [hO, suchT_mk]
        generalize (l.all fun x => decide (partOf 9 = 0 ∨ x.k = partOf 9)) = al
        rw [hka, hlb]
        simp only [hk1]
        by_cases hn : n = 0 <;> by_cases hu : u = 0 <;> by_cases hs : s = [] <;> by_cases ha0 : an = 0 <;> simp [hn, hu, hs, ha0, hsd]
      · refine ret_eq (such_u4 5 n u s A an ac B bn bc vs (partOf 5) w h2 hbn r1 r17 rfl rfl rfl rfl rfl rfl) ?_
        rw [hO, suchT_mk]
        generalize (l.all fun x => decide (partOf 5 = 0 ∨ x.k = partOf 5)) = al
        rw [hka, hlb]
        simp only [hk1]
        by_cases hn : n = 0 <;> by_cases hu : u = 0 <;> by_cases hs : s = [] <;> by_cases ha0 : an = 0 <;> simp [hn, hu, hs, ha0]
      · refine ret_eq (such_u4 6 n u s A an ac B bn bc vs (partOf 6) w h2 hbn r1 r17 rfl rfl rfl rfl rfl rfl) ?_
        rw [hO, suchT_mk]
        generalize (l.all fun x => decide (partOf 6 = 0 ∨ x.k = partOf 6)) = al
        rw [hka, hlb]
        simp only [hk1]
        by_cases hn : n = 0 <;> by_cases hu : u = 0 <;> by_cases hs : s = [] <;> by_cases ha0 : an = 0 <;> simp [hn, hu, hs, ha0]
      · refine ret_eq (such_u4 7 n u s A an ac B bn bc vs (partOf 7) w h2 hbn r1 r17 rfl rfl rfl rfl rfl rfl) ?_
        rw [hO, suchT_mk]
        generalize (l.all fun x => decide (partOf 7 = 0 ∨ x.k = partOf 7)) = al
        rw [hka, hlb]
        simp only [hk1]
        by_cases hn : n = 0 <;> by_cases hu : u = 0 <;> by_cases hs : s = [] <;> by_cases ha0 : an = 0 <;> simp [hn, hu, hs, ha0]
      · refine ret_eq (such_u8 17 n u s A an ac B bn bc vs (partOf 17) w h2 hbn r1 r17 rfl rfl rfl rfl rfl rfl) ?_
        rw [hO, suchT_mk]
        generalize (l.all fun x => decide (partOf 17 = 0 ∨ x.k = partOf 17)) = al
        rw [hka, hlb]
        simp only [hk1]
        by_cases hn : n = 0 <;> by_cases hu : u = 0 <;> by_cases hs : s = [] <;> by_cases ha0 : an = 0 <;> simp [hn, hu, hs, ha0, hsd]
      · refine ret_eq (such_f15 15 n u s A an ac B bn bc vs (partOf 15) w h2 hbn r1 r17 rfl rfl rfl rfl rfl rfl) ?_
        rw [hO, suchT_mk]
        generalize (l.all fun x => decide (partOf 15 = 0 ∨ x.k = partOf 15)) = al
        rw [hka, hlb]
        simp only [hk1]
        by_cases hn : n = 0 <;> by_cases hu : u = 0 <;> by_cases hs : s = [] <;> by_cases ha0 : an = 0 <;> by_cases hb2 : bn < 2 <;> by_cases hb4 : 4 < bn <;> simp [hn, hu, hs, ha0, hsd, hb2, hb4] <;> omega
      · refine ret_eq (such_f16 16 n u s A an ac B bn bc vs (partOf 16) w h2 hbn r1 r17 rfl rfl rfl rfl rfl rfl) ?_
        rw [hO, suchT_mk]
        generalize (l.all fun x => decide (partOf 16 = 0 ∨ x.k = partOf 16)) = al
        rw [hka, hlb]
        simp only [hk1]
        by_cases hn : n = 0 <;> by_cases hu : u = 0 <;> by_cases hs : s = [] <;> by_cases ha0 : an = 0 <;> by_cases hb2 : bn < 2 <;> by_cases hb4 : 4 < bn <;> simp [hn, hu, hs, ha0, hsd, hb2, hb4] <;> omega
      · refine ret_eq (such_u0 1 n u s A an ac B bn bc vs (partOf 1) w h2 hbn r1 r17 rfl rfl rfl rfl rfl rfl) ?_
        rw [hO, suchT_mk]
        generalize (l.all fun x => decide (partOf 1 = 0 ∨ x.k = partOf 1)) = al
        rw [hka, hlb]
        simp only [hk1]
        by_cases hn : n = 0 <;> by_cases hu : u = 0 <;> by_cases hs : s = [] <;> by_cases ha0 : an = 0 <;> simp [hn, hu, hs, ha0, hsd]
      · refine ret_eq (such_u0 10 n u s A an ac B bn bc vs (partOf 10) w h2 hbn r1 r17 rfl rfl rfl rfl rfl rfl) ?_
        rw [hO, suchT_mk]
        generalize (l.all fun x => decide (partOf 10 = 0 ∨ x.k = partOf 10)) = al
        rw [hka, hlb]
        simp only [hk1]
        by_cases hn : n = 0 <;> by_cases hu : u = 0 <;> by_cases hs : s = [] <;> by_cases ha0 : an = 0 <;> simp [hn, hu, hs, ha0, hsd]
      · refine ret_eq (such_u0 11 n u s A an ac B bn bc vs (partOf 11) w h2 hbn r1 r17 rfl rfl rfl rfl rfl rfl) ?_
        rw [hO, suchT_mk]
        generalize (l.all fun x => decide (partOf 11 = 0 ∨ x.k = partOf 11)) = al
        rw [hka, hlb]
        simp only [hk1]
        by_cases hn : n = 0 <;> by_cases hu : u = 0 <;> by_cases hs : s = [] <;> by_cases ha0 : an = 0 <;> simp [hn, hu, hs, ha0, hsd]
      · refine ret_eq (such_u0 12 n u s A an ac B bn bc vs (partOf 12) w h2 hbn r1 r17 rfl rfl rfl rfl rfl rfl) ?_
        rw [hO, suchT_mk]
        generalize (l.all fun x => decide (partOf 12 = 0 ∨ x.k = partOf 12)) = al
        rw [hka, hlb]
        simp only [hk1]
        by_cases hn : n = 0 <;> by_cases hu : u = 0 <;> by_cases hs : s = [] <;> by_cases ha0 : an = 0 <;> simp [hn, hu, hs, ha0, hsd]
      · refine ret_eq (such_u0 13 n u s A an ac B bn bc vs (partOf 13) w h2 hbn r1 r17 rfl rfl rfl rfl rfl rfl) ?_
        rw [hO, suchT_mk]
        generalize (l.all fun x => decide (partOf 13 = 0 ∨ x.k = partOf 13)) = al
        rw [hka, hlb]
        simp only [hk1]
        by_cases hn : n = 0 <;> by_cases hu : u = 0 <;> by_cases hs : s = [] <;> by_cases ha0 : an = 0 <;> simp [hn, hu, hs, ha0, hsd]
      · refine ret_eq (such_u0 14 n u s A an ac B bn bc vs (partOf 14) w h2 hbn r1 r17 rfl rfl rfl rfl rfl rfl) ?_
        rw [hO, suchT_mk]
        generalize (l.all fun x => decide (partOf 14 = 0 ∨ x.k = partOf 14)) = al
        rw [hka, hlb]
        simp only [hk1]
        by_cases hn : n = 0 <;> by_cases hu : u = 0 <;> by_cases hs : s = [] <;> by_cases ha0 : an = 0 <;> simp [hn, hu, hs, ha0, hsd]
    · refine ret_eq (such_out k n u s A an ac B bn bc w hr) ?_
      unfold suchT
      simp [Tr.k, hr]
mutual
theorem pre_lev : ∀ (t : Tr) (d : Nat) (x : Nat × Tr), x ∈ Tr.pre d t → x.1 + 1 ≤ d + (Tr.pre d t).length
  | .mk k n u s ks l, d, x, h => by
    rw [Tr.pre] at h ⊢
    rw [List.length_cons]
    rcases List.mem_cons.1 h with rfl | h
    · simp only; omega
    · have := preL_lev l (d + 1) x h
      omega
theorem preL_lev : ∀ (l : List Tr) (d : Nat) (x : Nat × Tr), x ∈ Tr.pre.Tr.preL d l → x.1 + 1 ≤ d + (Tr.pre.Tr.preL d l).length
  | [], d, x, h => by rw [Tr.pre.Tr.preL] at h; simp at h
  | t :: r, d, x, h => by
    rw [Tr.pre.Tr.preL] at h ⊢
    rw [List.length_append]
    rcases List.mem_append.1 h with h | h
    · have := pre_lev t d x h
      omega
    · have := preL_lev r d x h
      omega
end
theorem check_spec {x : Nv} {t : Tr} {p : Nat → Prop} {w : World} (h : NodeR w p x t) (hp : ∀ k, p k → k < w.heap.size) (hks : ∀ y ∈ Tr.pre 0 t, ∀ s ∈ y.2.ks, s.length ≤ 1048576) (hm : (Tr.pre 0 t).length ≤ 1048576) :
    Calls Tryz.prog 11 #[.agg #[.int .i64 x.k, .int .i64 x.n, .int .u64 (x.u : Int), .string ⟨x.s.toArray⟩, .slice x.A x.an x.ac, .slice x.B x.bn x.bc]] w fun e w' => e = .returned (.int .i64 (chk ers 0 t 0).1) ∧ Below w.heap.size w w' := by
  obtain ⟨Y, hO⟩ := h.ord 0
  have hN := hO.nodes
  have hkp : ∀ W, Kpv (fun k => w.heap.size ≤ k) w W → ∀ k, p k → ¬ (w.heap.size ≤ k) := fun W _ k hk => by have := hp k hk; omega
  refine check_gen x t Y p w (fun i => match (Tr.pre 0 t)[i]? with | some y => suchT y.2 | none => false) (fun i => match (Tr.pre 0 t)[i]? with | some y => keyedE 70 71 y.2 | none => 0) (chk ers 0 t 0).1 hO hp (by rw [hN.1]; omega) ?_ ?_ ?_ ?_
  · intro y hy
    obtain ⟨i, hi, rfl⟩ := List.getElem_of_mem hy
    obtain ⟨t', ht', _⟩ := hN.2 i _ (List.getElem?_eq_getElem hi)
    have := pre_lev t 0 _ (List.mem_of_getElem? ht')
    omega
  · intro i y W hy hW
    obtain ⟨t', ht', hr⟩ := hN.2 i y hy
    rw [ht']
    exact such_spec (own_of_kpv hr hW (hkp W hW))
  · intro i y W hy hW
    obtain ⟨t', ht', hr⟩ := hN.2 i y hy
    rw [ht']
    have hr2 := own_of_kpv hr hW (hkp W hW)
    have hsm := hks _ (List.mem_of_getElem? ht')
    obtain ⟨q1, q2, q3, q4, _⟩ := hr2.fields
    cases hr2 with
    | @mk _ ks l vs h1 ha hac hx h2 hb hbc hy' hl hc =>
      exact keyed_spec y.2 ks _ W h1 (by omega) hsm rfl
  · rw [errs_chk hN.1 ?_, (chk_fst t 0 0).1]
    intro i y z hy hz
    obtain ⟨t', ht', hr⟩ := hN.2 i y hy
    rw [hz] at ht'
    injection ht' with ht'
    subst ht'
    simp [hz]
end Go.Proofs.YtfoifdoaleaekaaGreat

namespace Go.Proofs.YtfoifdoaleaekaaGreat
open Go.RowKit Go.Acc
theorem ers_ok : ers.Ok := ⟨by decide, by decide, by decide, by decide, by decide⟩
def SdW (w : World) (t : Tr) (e : Ending) (w' : World) : Prop :=
  ∃ y : Nv, e = .returned (.tuple #[.agg #[.int .i64 y.k, .int .i64 y.n, .int .u64 (y.u : Int), .string ⟨y.s.toArray⟩, .slice y.A y.an y.ac, .slice y.B y.bn y.bc], .int .i64 0]) ∧ NodeR w' (fun b => w.heap.size ≤ b ∧ b < w'.heap.size) y (sortT t) ∧ Below w.heap.size w w'
set_option maxRecDepth 100000 in
set_option maxHeartbeats 2000000 in
theorem sortedok_spec {x : Nv} {t : Tr} {p : Nat → Prop} {w : World} (h : NodeR w p x t) (hp : ∀ k, p k → k < w.heap.size) (hc : t.cost ≤ 1000000) (he : (chk ers 0 t 0).1 = 0) :
    Calls Tryz.prog 19 #[.agg #[.int .i64 x.k, .int .i64 x.n, .int .u64 (x.u : Int), .string ⟨x.s.toArray⟩, .slice x.A x.an x.ac, .slice x.B x.bn x.bc]] w (SdW w t) := by
  have HV := Lib.hid (chk_val ers_ok t 0 0 he)
  have HCO := Lib.hid hc
  obtain ⟨xk, xn, xu, xs, XA, xan, xac, XB, xbn, xbc⟩ := x
  have hba := below_two w (.cells #[.int .i64 xk, .int .i64 xn, .int .u64 (xu : Int), .string ⟨xs.toArray⟩, .slice XA xan xac, .slice XB xbn xbc] 26) (.cells #[.int .i64 0, .int .i64 0, .int .u64 0, .string ⟨#[]⟩, .slice none 0 0, .slice none 0 0] 26)
  have HX := Lib.hid ((Blk.new w 26 #[.int .i64 xk, .int .i64 xn, .int .u64 (xu : Int), .string ⟨xs.toArray⟩, .slice XA xan xac, .slice XB xbn xbc]).alloc (.cells #[.int .i64 0, .int .i64 0, .int .u64 0, .string ⟨#[]⟩, .slice none 0 0, .slice none 0 0] 26))
  have HR := Lib.hid (Blk.new_ (w := w.alloc (.cells #[.int .i64 xk, .int .i64 xn, .int .u64 (xu : Int), .string ⟨xs.toArray⟩, .slice XA xan xac, .slice XB xbn xbc] 26)) (g := w.heap.size + 1) (by simp) 26 #[.int .i64 0, .int .i64 0, .int .u64 0, .string ⟨#[]⟩, .slice none 0 0, .slice none 0 0])
  have HB := Lib.hid hba
  have HCH := Lib.hid (check_spec (h.pure hba) (fun k hk => Nat.lt_of_lt_of_le (hp k hk) hba.size) (fun y hy s hs => by have := pre_keys t 0 y hy s hs; omega) (by have := pre_cost t 0; omega))
  rw [he] at HCH
  have HN := Lib.hid h
  clear h hp hc he hba
  go_enter Tryz.func19, Tryz.ntmps19
  go_upto_region 1 with fail
  generalize (w.alloc (.cells #[.int .i64 xk, .int .i64 xn, .int .u64 (xu : Int), .string ⟨xs.toArray⟩, .slice XA xan xac, .slice XB xbn xbc] 26)).alloc (.cells #[.int .i64 0, .int .i64 0, .int .u64 0, .string ⟨#[]⟩, .slice none 0 0, .slice none 0 0] 26) = w1 at HX HR HB HCH ⊢
  generalize hbt : w.heap.size = bt at HX HR ⊢
  generalize hbr : bt + 1 = br at HR ⊢
  have HT := Lib.hid (And.intro hbt hbr)
  clear hbt hbr
  have c0 : w1.cell? ⟨bt, 0, none⟩ = some (.int .i64 xk) := HX.out.cell 0
  have c1 : w1.cell? ⟨bt, 1, none⟩ = some (.int .i64 xn) := HX.out.cell 1
  have c2 : w1.cell? ⟨bt, 2, none⟩ = some (.int .u64 (xu : Int)) := HX.out.cell 2
  have c3 : w1.cell? ⟨bt, 3, none⟩ = some (.string ⟨xs.toArray⟩) := HX.out.cell 3
  have c4 : w1.cell? ⟨bt, 4, none⟩ = some (.slice XA xan xac) := HX.out.cell 4
  have c5 : w1.cell? ⟨bt, 5, none⟩ = some (.slice XB xbn xbc) := HX.out.cell 5
  go_wp2_with fail
  go_at_call 11
  refine HCH.out.mono ?_
  rintro e w2 ⟨rfl, hb2⟩
  have HB2 := Lib.hid (pure_below HB.out hb2)
  have HR2 := Lib.hid (HR.out.pure hb2)
  have hX2 := HX.out.pure hb2
  clear hb2 c0 c1 c2 c3 c4 c5
  have c0 : w2.cell? ⟨bt, 0, none⟩ = some (.int .i64 xk) := hX2.cell 0
  have c1 : w2.cell? ⟨bt, 1, none⟩ = some (.int .i64 xn) := hX2.cell 1
  have c2 : w2.cell? ⟨bt, 2, none⟩ = some (.int .u64 (xu : Int)) := hX2.cell 2
  have c3 : w2.cell? ⟨bt, 3, none⟩ = some (.string ⟨xs.toArray⟩) := hX2.cell 3
  have c4 : w2.cell? ⟨bt, 4, none⟩ = some (.slice XA xan xac) := hX2.cell 4
  have c5 : w2.cell? ⟨bt, 5, none⟩ = some (.slice XB xbn xbc) := hX2.cell 5
  have HCP := Lib.hid (copy_spec HN.out w2 HB2.out)
  clear hX2
  go_wp2_with fail
  go_at_call 53
  refine HCP.out.mono ?_
  rintro e w3 ⟨y, rfl, hX3, hB3⟩
  have HX3 := Lib.hid hX3
  have HB3 := Lib.hid (pure_below HB2.out hB3)
  have HR3 := Lib.hid (HR2.out.pure hB3)
  have HSZ := Lib.hid (show br < w2.heap.size ∧ w2.heap.size ≤ w3.heap.size from ⟨HR2.out.lt, hB3.size⟩)
  have HSO := Lib.hid (sorted_spec hX3 (fun k hk => hk.2) HV.out HCO.out w3 (fun _ _ => rfl) (Nat.le_refl _))
  clear hX3 hB3 c0 c1 c2 c3 c4 c5
  go_wp2_with fail
  go_at_call 52
  refine HSO.out.mono ?_
  rintro e w4 ⟨z, rfl, hN4, hF4⟩
  have HN4 := Lib.hid hN4
  have HF4 := Lib.hid hF4
  have hs := HSZ.out
  have HB4 := Lib.hid (below_fr HB3.out hF4 (fun k hk => by have h1 := HB2.out.size; omega))
  have HR4 := Lib.hid (HR3.out.fr hF4 (fun hk => by omega))
  clear hN4 hF4 hs
  have r0 : w4.cell? ⟨br, 0, none⟩ = some (.int .i64 0) := HR4.out.cell 0
  have r1 : w4.cell? ⟨br, 1, none⟩ = some (.int .i64 0) := HR4.out.cell 1
  have r2 : w4.cell? ⟨br, 2, none⟩ = some (.int .u64 0) := HR4.out.cell 2
  have r3 : w4.cell? ⟨br, 3, none⟩ = some (.string ⟨#[]⟩) := HR4.out.cell 3
  have r4 : w4.cell? ⟨br, 4, none⟩ = some (.slice none 0 0) := HR4.out.cell 4
  have r5 : w4.cell? ⟨br, 5, none⟩ = some (.slice none 0 0) := HR4.out.cell 5
  have hfz : ∀ j, w4.frozen? ⟨br, j, none⟩ = false := fun j => HR4.out.frozen j
  have f0 := hfz 0
  have f1 := hfz 1
  have f2 := hfz 2
  have f3 := hfz 3
  have f4 := hfz 4
  have f5 := hfz 5
  clear hfz
  go_wp2_with fail
  refine bodyPost_ret (v := .tuple #[.agg #[.int .i64 z.k, .int .i64 z.n, .int .u64 (z.u : Int), .string ⟨z.s.toArray⟩, .slice z.A z.an z.ac, .slice z.B z.bn z.bc], .int .i64 0]) (by simp [results, Tryz.results19, go_sem, r0, r1, r2, r3, r4, r5]) rfl ?_
  have hf := fr_set6 w4 br (.int .i64 z.k) (.int .i64 z.n) (.int .u64 (z.u : Int)) (.string ⟨z.s.toArray⟩) (.slice z.A z.an z.ac) (.slice z.B z.bn z.bc)
  have hs := HSZ.out
  have ht := HT.out
  have h4 := HF4.out.size
  have h5 := hf.size
  exact ⟨z, rfl, (HN4.out.keep fun a u hc hp => cell_fr hf hc (by rcases hp with hp | hp <;> omega)).mono fun b hb => by rcases hb with hb | hb <;> exact ⟨by omega, by omega⟩, below_fr HB4.out hf (by rintro j rfl; omega)⟩
end Go.Proofs.YtfoifdoaleaekaaGreat

namespace Go.Proofs.YtfoifdoaleaekaaGreat
open Go.RowKit Go.Acc
theorem chk_leafI (d c : Nat) (n : Int) (hd : d < 64) (hc : c + 1 ≤ 4096) : chk ers d (leafI n) c = (0, c + 1) := by
  unfold leafI
  rw [chk, if_neg (by omega), if_neg (by omega), if_neg (by simp [suchT, Tr.k, Tr.n, Tr.u, Tr.s, Tr.ks, Tr.l]), if_neg (by simp [keyedE, Tr.k, keysE, Tr.ks]), chkL]
end Go.Proofs.YtfoifdoaleaekaaGreat

namespace Go.Proofs.YtfoifdoaleaekaaGreat
open Go.RowKit Go.Acc
theorem below_drew (w : World) : Below w.heap.size w w.drew := (Below.refl _ _).drew
end Go.Proofs.YtfoifdoaleaekaaGreat
