/-
  The document of a key, a string, a blob: what Finish needs, and what the readers of text find, with bytes ahead and behind. No program in sight.
  Package list, plain: a built document with bytes ahead, as the readers of lists find it. No program in sight.
  Package build: New.
  The arguments of a law, opened to cells: integers, slices of structs, slices of slices; and what a law's last step wants.
  Trees in memory: a node's value, its keys and children in slices; the nodes in preorder.
  Package encode: the calls for a number, a boolean, a null.
-/
import Derived.Test.YtfoifdoaleaekaaGreatQf17
namespace Go.Proofs.YtfoifdoaleaekaaGreat
open Go.RowKit Go.Acc
theorem alignB_le8 {w : Nat} (b : List UInt8) (hw : isW (w : Int) = true) : (alignB w b).length ≤ b.length + 8 := by
  simp only [alignB, List.length_append, List.length_replicate, padN]
  rcases w_cases hw with rfl | rfl | rfl | rfl <;> omega
theorem finok_gen {l : List UInt8} {v : Bv} (ht : legalT v.t = true) (hv : isW (v.w : Int) = true) (hf : Fit l.length v) (hl : l.length + 20 ≤ 1048576) : FinOk l v (leastW (fitsV v l.length 0)) := by
  obtain ⟨hw, hfit⟩ := leastW_is (fitsV v l.length 0) (fitsV8 hf 0)
  have hw := isW_nat.2 hw
  obtain ⟨y, hy⟩ : ∃ y, leastW (fitsV v l.length 0) = y := ⟨_, rfl⟩
  rw [hy] at hw hfit ⊢
  obtain ⟨a1, a2, a3⟩ := align_len hw l
  cases hi : inl v.t with
  | true =>
    have he : elemN y (alignB y l).length v = v.n % 2 ^ (8 * y) := by unfold elemN; rw [if_pos hi]
    exact ⟨ht, hv, hy, hw, by rw [he]; exact fits_low _ _, by rw [he]; exact low_lt _ hw, (fun h => absurd hi (by rw [h]; decide)), hl⟩
  | false =>
    obtain ⟨h1, h2⟩ := fits_off hi hfit
    have he : elemN y (alignB y l).length v = (alignB y l).length - v.n := by unfold elemN; rw [if_neg (by rw [hi]; decide)]
    have h8 := alignB_le8 l hw
    rw [Nat.zero_mul, Nat.add_zero, ← a1] at h2
    have hlt := bWidth_lt hw (by omega) h2
    exact ⟨ht, hv, hy, hw, by rw [he]; exact decide_eq_true (.inr hlt), by rw [he]; omega, fun _ => by omega, hl⟩
theorem zeroAt_at {L s : List UInt8} {a : Nat} (h : At L a (s ++ [0])) (h0 : (0 : UInt8) ∉ s) : zeroAt L a = a + s.length ∧ a + s.length < L.length := by
  have hle := h.le
  rw [List.length_append, List.length_singleton] at hle
  refine ⟨?_, by omega⟩
  obtain ⟨p, q, rfl, rfl⟩ := h
  unfold zeroAt
  rw [show p ++ (s ++ [0]) ++ q = p ++ (s ++ ([0] ++ q)) by simp only [List.append_assoc], List.drop_left, List.findIdx_append]
  have hn : s.findIdx (· == 0) = s.length := by
    rw [List.findIdx_eq_length]
    intro c hc
    cases hb : (c == 0) with
    | false => rfl
    | true => exact absurd (by rw [beq_iff_eq] at hb; rw [← hb]; exact hc) h0
  rw [hn, if_neg (Nat.lt_irrefl _)]
  simp [List.findIdx_cons]
theorem keyL_at {L s : List UInt8} {a : Nat} (h : At L a (s ++ [0])) (h0 : (0 : UInt8) ∉ s) : keyE L a = 0 ∧ keyL L a = s := by
  obtain ⟨h1, h2⟩ := zeroAt_at h h0
  refine ⟨keyE_yes (by omega), ?_⟩
  unfold keyL
  rw [h1, show a + s.length - a = s.length by omega]
  exact (h.left).take
end Go.Proofs.YtfoifdoaleaekaaGreat

namespace Go.Proofs.YtfoifdoaleaekaaGreat
open Go.Acc
theorem docB_app (b : List UInt8) (v : Bv) (w : Nat) : ∃ m, docB b v w = b ++ m := ⟨_, by unfold docB alignB; rw [List.append_assoc, List.append_assoc]⟩
theorem doc_leads {x b : List UInt8} {v : Bv} {w : Nat} (hw : isW (w : Int) = true) (ht : legalT (v.t : Int) = true) (hv : isW (v.w : Int) = true) (hb : b.length < 2 ^ 32) (hf : fitsV v b.length 0 w = true) (hi : inlineT (v.t : Int) = false) :
    Leads (x ++ docB b v w) x.length v ((x.length + (alignB w b).length : Nat) : Int) (w : Int) := by
  have ho : ownW w v = v.w := by unfold ownW; rw [show inl v.t = false from hi]; rfl
  have hm := doc_may (x := x) (b := b) hw ht hv
  obtain ⟨_, h2⟩ := doc_target (x := x) hw ht hv hb hf
  obtain ⟨a, c, _⟩ := h2 hi
  rw [ho] at hm a c
  exact ⟨hm, a, c⟩
end Go.Proofs.YtfoifdoaleaekaaGreat

namespace Go.Proofs.YtfoifdoaleaekaaGreat
open Go.RowKit Go.Acc
theorem pnew_spec (w : World) :
    Calls Tryz.prog 103 #[] w fun e w' => ∃ b, e = .returned (.pointer (some ⟨b, 0, none⟩)) ∧ Blk w' b 216 #[.slice none 0 0, .slice none 0 0, .bool true] ∧ w.heap.size ≤ b ∧ Below w.heap.size w w' := by
  go_enter Tryz.func103, Tryz.ntmps103
  go_wp2
  go_ret
  exact ⟨_, rfl, Blk.new w _ _, Nat.le_refl _, (Below.refl _ _).alloc (Nat.le_refl _) _⟩
theorem snew_is (w : World) :
    Calls Tryz.prog 102 #[] w fun e w' => ∃ b, e = .returned (.pointer (some ⟨b, 0, none⟩)) ∧ Blk w' b 212 #[.slice none 0 0, .bool true] ∧ w.heap.size ≤ b ∧ Below w.heap.size w w' := by
  go_enter Tryz.func102, Tryz.ntmps102
  go_wp2
  go_ret
  exact ⟨_, rfl, Blk.new w _ _, Nat.le_refl _, (Below.refl _ _).alloc (Nat.le_refl _) _⟩
def newOw (o : Nat → Nat) (N bb sb kb tb lb mb β : Nat) : Nat → Nat := fun k => if k < N then o k else if k = bb then 1 else if k = sb then 3 else if k = kb then 4 else if k = tb then 5 else if k = lb then 6 else if k = mb then 7 else if k = β then 2 else 0
theorem pool_new {w : World} {o : Nat → Nat} {i p : Nat} (h : Blk w p 216 #[.slice none 0 0, .slice none 0 0, .bool true]) (ho : o p = i) : PoolO w o i p [] :=
  ⟨none, none, 0, 0, 0, [], [], h, Own.nil _ _, Own.nil _ _, Of.none_ _, Of.none_ _, ho, List.Pairwise.nil, fun _ => rfl, Nat.le_refl _, fun a h => by cases h⟩
set_option maxRecDepth 100000 in
set_option maxHeartbeats 2000000 in
theorem cnew_spec (fl : Int) (w : World) (o : Nat → Nat) :
    Calls Tryz.prog 73 #[.int .i64 fl, .int .i64 1048576] w fun e w' => ∃ M o', e = .returned (.pointer (some ⟨M.β, 0, none⟩)) ∧ BM M fl w' o' Bd.new ∧ To (fun _ => False) w o w' o' := by
  have h0 := run_makeMap (P := Tryz.prog) 159
  go_enter Tryz.func73, Tryz.ntmps73
  go_wp2_with fail
  go_at_call 101
  refine (bnew_spec _).mono ?_
  rintro e w1 ⟨bb, rfl, hb1, hl1, hB⟩
  have HB := Lib.hid hB
  have H1 := Lib.hid hb1
  have L1 := Lib.hid (And.intro hl1 hb1.lt)
  clear hB hb1 hl1
  go_wp2_with fail
  go_at_call 102
  refine (snew_is _).mono ?_
  rintro e w2 ⟨sb, rfl, hb2, hl2, hB⟩
  replace HB := Lib.hid (pure_below HB.out hB)
  have H2 := Lib.hid hb2
  replace H1 := Lib.hid (H1.out.pure hB)
  have L2 := Lib.hid (And.intro hl2 hb2.lt)
  clear hB hb2 hl2
  go_wp2_with fail
  go_at_call 103
  refine (pnew_spec _).mono ?_
  rintro e w3 ⟨kb, rfl, hb3, hl3, hB⟩
  replace HB := Lib.hid (pure_below HB.out hB)
  have H3 := Lib.hid hb3
  replace H1 := Lib.hid (H1.out.pure hB)
  replace H2 := Lib.hid (H2.out.pure hB)
  have L3 := Lib.hid (And.intro hl3 hb3.lt)
  clear hB hb3 hl3
  go_wp2_with fail
  go_at_call 103
  refine (pnew_spec _).mono ?_
  rintro e w4 ⟨tb, rfl, hb4, hl4, hB⟩
  replace HB := Lib.hid (pure_below HB.out hB)
  have H4 := Lib.hid hb4
  replace H1 := Lib.hid (H1.out.pure hB)
  replace H2 := Lib.hid (H2.out.pure hB)
  replace H3 := Lib.hid (H3.out.pure hB)
  have L4 := Lib.hid (And.intro hl4 hb4.lt)
  clear hB hb4 hl4
  go_wp2_with fail
  go_at_call 103
  refine (pnew_spec _).mono ?_
  rintro e w5 ⟨lb, rfl, hb5, hl5, hB⟩
  replace HB := Lib.hid (pure_below HB.out hB)
  have H5 := Lib.hid hb5
  replace H1 := Lib.hid (H1.out.pure hB)
  replace H2 := Lib.hid (H2.out.pure hB)
  replace H3 := Lib.hid (H3.out.pure hB)
  replace H4 := Lib.hid (H4.out.pure hB)
  have L5 := Lib.hid (And.intro hl5 hb5.lt)
  clear hB hb5 hl5
  go_wp2_with fail
  go_ret
  have hB := below_two w5 (.map #[] 0) (.cells #[.pointer (some ⟨bb, 0, none⟩), .pointer (some ⟨sb, 0, none⟩), .int .i64 0, .int .i64 fl, .pointer (some ⟨kb, 0, none⟩), .pointer (some ⟨tb, 0, none⟩), .pointer (some ⟨lb, 0, none⟩), .map (some w5.heap.size), .slice none 0 0, .bool true] 164)
  have h6 := World.ownsMap_made (H := Unit) w5 Tryz.prog 22 (plainElem Tryz.prog 9)
  have h7 := blk_new2 w5 (.map #[] 0) 164 #[.pointer (some ⟨bb, 0, none⟩), .pointer (some ⟨sb, 0, none⟩), .int .i64 0, .int .i64 fl, .pointer (some ⟨kb, 0, none⟩), .pointer (some ⟨tb, 0, none⟩), .pointer (some ⟨lb, 0, none⟩), .map (some w5.heap.size), .slice none 0 0, .bool true]
  have l1 := L1.out
  have l2 := L2.out
  have l3 := L3.out
  have l4 := L4.out
  have l5 := L5.out
  obtain ⟨N, hN⟩ : ∃ N, w5.heap.size = N := ⟨_, rfl⟩
  have e1 : newOw o w.heap.size bb sb kb tb lb N (N + 1) bb = 1 := by unfold newOw; rw [if_neg (by omega), if_pos rfl]
  have e2 : newOw o w.heap.size bb sb kb tb lb N (N + 1) sb = 3 := by unfold newOw; rw [if_neg (by omega), if_neg (by omega), if_pos rfl]
  have e3 : newOw o w.heap.size bb sb kb tb lb N (N + 1) kb = 4 := by unfold newOw; rw [if_neg (by omega), if_neg (by omega), if_neg (by omega), if_pos rfl]
  have e4 : newOw o w.heap.size bb sb kb tb lb N (N + 1) tb = 5 := by unfold newOw; rw [if_neg (by omega), if_neg (by omega), if_neg (by omega), if_neg (by omega), if_pos rfl]
  have e5 : newOw o w.heap.size bb sb kb tb lb N (N + 1) lb = 6 := by unfold newOw; rw [if_neg (by omega), if_neg (by omega), if_neg (by omega), if_neg (by omega), if_neg (by omega), if_pos rfl]
  have e6 : newOw o w.heap.size bb sb kb tb lb N (N + 1) N = 7 := by unfold newOw; rw [if_neg (by omega), if_neg (by omega), if_neg (by omega), if_neg (by omega), if_neg (by omega), if_neg (by omega), if_pos rfl]
  have e7 : newOw o w.heap.size bb sb kb tb lb N (N + 1) (N + 1) = 2 := by unfold newOw; rw [if_neg (by omega), if_neg (by omega), if_neg (by omega), if_neg (by omega), if_neg (by omega), if_neg (by omega), if_neg (by omega), if_pos rfl]
  rw [hN] at hB h6 h7 ⊢
  refine ⟨⟨N + 1, bb, sb, kb, tb, lb, N⟩, newOw o w.heap.size bb sb kb tb lb N (N + 1), rfl, ⟨⟨none, 0, 0, h7, Own.nil _ _, Of.none_ _, e7⟩, ⟨none, 0, 0, (H1.out.alloc _).alloc _, Own.nil _ _, Of.none_ _, e1⟩, ⟨none, ⟨none, 0, 0, (H2.out.alloc _).alloc _, Own.nil _ _, rfl, by omega, Nat.zero_le _⟩, e2, fun k h => by cases h⟩,
    pool_new ((H3.out.alloc _).alloc _) e3, pool_new ((H4.out.alloc _).alloc _) e4, pool_new ((H5.out.alloc _).alloc _) e5, e6, 0, .map [], h6.alloc _, Nat.le_refl _, fun a s h => by cases h⟩, ⟨Fr.of_below (pure_below HB.out (by rw [hN]; exact hB)) _, fun k hk => if_pos hk⟩⟩
end Go.Proofs.YtfoifdoaleaekaaGreat

namespace Go.Acc
open Go.RowKit Go.ChangeShapes Go.WideShapes Go.Deep

section
variable {H : Type} {enc : TypeId × Value → H} {P : Program} {W W' : World}
theorem below_arg {t : TypeId} (hl : laidOutB P = true) (hr : P.readableRec t = true) (hrow : t < P.types.size) {v : Value} {d : DataW H} {ps : List MemPlace}
    (h : DataW.Trod enc P W 0 (fun _ => true) true t v d ps) (hb : Below W.heap.size W W') : DataW.Trod enc P W' 0 (fun b => decide (b < W.heap.size)) true t v d ps :=
  Below.trod hl hr hrow h hb (by obtain ⟨m, hm⟩ := h; exact DataW.trod_lt m _ _ _ hm)

theorem i64_bd {n : Int} (h : (Lit.int .i64 n).wf = true) : -9223372036854775808 ≤ n ∧ n ≤ 9223372036854775807 := by
  simp [Lit.wf, IntKind.min, IntKind.max, IntKind.signed, IntKind.bits] at h
  exact ⟨by omega, by omega⟩
theorem list_of {α : Type} (p : Nat → α → Prop) (n : Nat) (h : ∀ i, i < n → ∃ x, p i x) : ∃ l : List α, l.length = n ∧ ∀ i (hi : i < l.length), p i l[i] := by
  induction n with
  | zero => exact ⟨[], rfl, fun i hi => by simp at hi⟩
  | succ n ih =>
    obtain ⟨l, hl, hp⟩ := ih fun i hi => h i (by omega)
    obtain ⟨x, hx⟩ := h n (by omega)
    refine ⟨l ++ [x], by simp [hl], fun i hi => ?_⟩
    by_cases hin : i < l.length
    · rw [List.getElem_append_left hin]; exact hp i hin
    · have : i = n := by simp at hi; omega
      subst this
      rw [List.getElem_append_right (by omega)]
      simpa [hl] using hx

theorem add_spot {w : World} {a : Addr} {u : Value} (h : w.cell? a = some u) : a = ⟨a.block, a.off, none⟩ := by
  have := spot_of_cell h
  cases a
  simp_all

theorem is_of_elems {α : Type} {f : α → List Value} {sz : Nat} (hf : ∀ x, (f x).length = sz) (hz : 0 < sz) {w : World} {a : Addr} {n : Nat} (q : α → Prop)
    (h : ∀ i, i < n → ∃ x, q x ∧ ∀ j, j < sz → w.cell? (a.add (i * sz + j)) = (f x)[j]?) : ∃ l, Is f w (some a) n l ∧ ∀ x ∈ l, q x := by
  obtain ⟨l, hl, hp⟩ := list_of _ n h
  refine ⟨l, ⟨hl, fun t u hu => ?_⟩, fun x hx => ?_⟩
  · have ht : t < n * sz := by
      have := (List.getElem?_eq_some_iff.1 hu).1
      rw [fm_length hf, hl] at this
      exact this
    have hpos : 0 < n := by
      rcases Nat.eq_zero_or_pos n with h0 | h0
      · subst h0; simp at ht
      · exact h0
    have h0 := (hp 0 (by omega)).2 0 hz
    rw [List.getElem?_eq_getElem (by rw [hf]; exact hz)] at h0
    have ha : a = ⟨a.block, a.off, none⟩ := by
      have := add_spot h0
      simpa [Addr.add] using add_spot (w := w) (a := a) (by simpa [Addr.add] using h0)
    have hi : t / sz < l.length := by rw [hl]; exact Nat.div_lt_of_lt_mul (by rw [Nat.mul_comm]; exact ht)
    have hj : t % sz < sz := Nat.mod_lt _ hz
    have e : t / sz * sz + t % sz = t := by rw [Nat.mul_comm]; exact Nat.div_add_mod t sz
    have hc := (hp _ hi).2 _ hj
    have hu' := fm_at hf l (t / sz) (t % sz) hi hj
    rw [e, hu] at hu'
    rw [e, ← hu'] at hc
    refine ⟨a.block, a.off, by rw [← ha], ?_⟩
    rw [ha, add_none] at hc
    exact hc
  · obtain ⟨i, hi, rfl⟩ := List.mem_iff_getElem.1 hx
    exact (hp i hi).1

variable {w : World} {base : Nat} {spare : Nat → Bool} {held : Bool}
end
end Go.Acc

namespace Go.Proofs.YtfoifdoaleaekaaGreat
open Go.RowKit Go.Acc
structure Nv where
  k : Int
  n : Int
  u : Nat
  s : List UInt8
  A : Option Addr
  an : Nat
  ac : Nat
  B : Option Addr
  bn : Nat
  bc : Nat
def nvc (x : Nv) : List Value := [.int .i64 x.k, .int .i64 x.n, .int .u64 (x.u : Int), .string ⟨x.s.toArray⟩, .slice x.A x.an x.ac, .slice x.B x.bn x.bc]
theorem nvc_len (x : Nv) : (nvc x).length = 6 := rfl
theorem nvc_one (x : Nv) : ∀ u ∈ nvc x, u.oneCell' = true := by
  intro u hu
  simp [nvc] at hu
  rcases hu with rfl | rfl | rfl | rfl | rfl | rfl <;> rfl
abbrev IsN := Is nvc
abbrev OwnT := Go.Acc.Own nvc 6 26
theorem isn_at {w : World} {A : Option Addr} {n : Nat} {l : List Nv} (h : IsN w A n l) {k : Nat} {x : Nv} (hx : l[k]? = some x) :
    ∃ b off, A = some ⟨b, off, none⟩ ∧ w.cell? ⟨b, off + k * 6, none⟩ = some (.int .i64 x.k) ∧ w.cell? ⟨b, off + k * 6 + 1, none⟩ = some (.int .i64 x.n) ∧ w.cell? ⟨b, off + k * 6 + 2, none⟩ = some (.int .u64 (x.u : Int)) ∧
      w.cell? ⟨b, off + k * 6 + 3, none⟩ = some (.string ⟨x.s.toArray⟩) ∧ w.cell? ⟨b, off + k * 6 + 4, none⟩ = some (.slice x.A x.an x.ac) ∧ w.cell? ⟨b, off + k * 6 + 5, none⟩ = some (.slice x.B x.bn x.bc) := by
  have hk : k < n := by rw [← h.1]; exact (List.getElem?_eq_some_iff.1 hx).1
  obtain ⟨b, off, e, hk', hc⟩ := h.at_ nvc_len (by omega) hk
  have ex : l[k] = x := (List.getElem?_eq_some_iff.1 hx).2
  rw [ex] at hc
  exact ⟨b, off, e, hc 0 (by omega), hc 1 (by omega), hc 2 (by omega), hc 3 (by omega), hc 4 (by omega), hc 5 (by omega)⟩
inductive NodeR (w : World) (p : Nat → Prop) : Nv → Tr → Prop
  | mk {x : Nv} {ks : List (List UInt8)} {l : List Tr} {vs : List Nv} (h1 : IsS w x.A x.an ks) (ha : ∀ ad, x.A = some ad → p ad.block) (hac : x.an ≤ x.ac) (hx : x.an ≤ 1099511627776)
      (h2 : IsN w x.B x.bn vs) (hb : ∀ ad, x.B = some ad → p ad.block) (hbc : x.bn ≤ x.bc) (hy : x.bn ≤ 1099511627776) (hl : vs.length = l.length)
      (hc : ∀ (i : Nat) v t, vs[i]? = some v → l[i]? = some t → NodeR w p v t) : NodeR w p x (.mk x.k x.n x.u x.s ks l)
inductive NodeO (w : World) (p : Nat → Prop) : Nat → Nv → Tr → List (Nat × Nv) → Prop
  | mk {d : Nat} {x : Nv} {ks : List (List UInt8)} {l : List Tr} {vs : List Nv} {yss : List (List (Nat × Nv))} (h1 : IsS w x.A x.an ks) (ha : ∀ ad, x.A = some ad → p ad.block) (hac : x.an ≤ x.ac) (hx : x.an ≤ 1099511627776)
      (h2 : IsN w x.B x.bn vs) (hb : ∀ ad, x.B = some ad → p ad.block) (hbc : x.bn ≤ x.bc) (hy : x.bn ≤ 1099511627776) (hl : vs.length = l.length) (hyl : yss.length = l.length)
      (hc : ∀ (i : Nat) v t ys, vs[i]? = some v → l[i]? = some t → yss[i]? = some ys → NodeO w p (d + 1) v t ys) : NodeO w p d x (.mk x.k x.n x.u x.s ks l) ((d, x) :: yss.flatten)
theorem NodeR.ord {w : World} {p : Nat → Prop} {x : Nv} {t : Tr} (h : NodeR w p x t) : ∀ d, ∃ ys, NodeO w p d x t ys := by
  induction h with
  | @mk x ks l vs h1 ha hac hx h2 hb hbc hy hl hc ih =>
    intro d
    have hex : ∀ i, i < l.length → ∃ ys, ∀ v t, vs[i]? = some v → l[i]? = some t → NodeO w p (d + 1) v t ys := by
      intro i hi
      obtain ⟨ys, hys⟩ := ih i (vs[i]'(by omega)) l[i] (List.getElem?_eq_getElem _) (List.getElem?_eq_getElem _) (d + 1)
      refine ⟨ys, fun v t hv ht => ?_⟩
      rw [List.getElem?_eq_getElem (by omega)] at hv ht
      injection hv with hv
      injection ht with ht
      rw [← hv, ← ht]
      exact hys
    obtain ⟨yss, hyl, hp⟩ := list_of _ l.length hex
    exact ⟨_, .mk h1 ha hac hx h2 hb hbc hy hl hyl (fun i v t ys hv ht hys => by
      obtain ⟨hi, e⟩ := List.getElem?_eq_some_iff.1 hys
      rw [← e]
      exact hp i hi v t hv ht)⟩
theorem rd_by {w w' : World} {p : Nat → Prop} {A : Option Addr} {xs : List Value} (h : Rd w A xs) (ha : ∀ ad, A = some ad → p ad.block) (hk : ∀ a u, w.cell? a = some u → p a.block → w'.cell? a = some u) : Rd w' A xs := by
  intro j u hu
  obtain ⟨b, off, rfl, hc⟩ := h j u hu
  exact ⟨b, off, rfl, hk _ _ hc (ha ⟨b, off, none⟩ rfl)⟩
theorem NodeR.keep {w w' : World} {p : Nat → Prop} {x : Nv} {t : Tr} (h : NodeR w p x t) (hk : ∀ a u, w.cell? a = some u → p a.block → w'.cell? a = some u) : NodeR w' p x t := by
  induction h with
  | mk h1 ha hac hx h2 hb hbc hy hl hc ih => exact .mk ⟨h1.1, rd_by h1.2 ha hk⟩ ha hac hx ⟨h2.1, rd_by h2.2 hb hk⟩ hb hbc hy hl ih
theorem NodeR.pure {w w' : World} {p : Nat → Prop} {x : Nv} {t : Tr} (h : NodeR w p x t) (hb : Below w.heap.size w w') : NodeR w' p x t := h.keep fun _ _ hc _ => cell_pure hb hc
theorem NodeR.mono {w : World} {p q : Nat → Prop} {x : Nv} {t : Tr} (h : NodeR w p x t) (hq : ∀ k, p k → q k) : NodeR w q x t := by
  induction h with
  | mk h1 ha hac hx h2 hb hbc hy hl hc ih => exact .mk h1 (fun ad h => hq _ (ha ad h)) hac hx h2 (fun ad h => hq _ (hb ad h)) hbc hy hl ih
theorem NodeR.to_ {I : Nat → Prop} {w w' : World} {o o' : Nat → Nat} {p : Nat → Prop} {x : Nv} {t : Tr} (h : NodeR w p x t) (ht : To I w o w' o') (hp : ∀ k, p k → ¬ I (o k)) : NodeR w' p x t :=
  h.keep fun _ _ hc hpa => ht.cell hc (hp _ hpa)
theorem NodeR.fields {w : World} {p : Nat → Prop} {x : Nv} {t : Tr} (h : NodeR w p x t) : t.k = x.k ∧ t.n = x.n ∧ t.u = x.u ∧ t.s = x.s ∧ t.ks.length = x.an ∧ t.l.length = x.bn := by
  cases h with
  | mk h1 ha hac hx h2 hb hbc hy hl hc => exact ⟨rfl, rfl, rfl, rfl, h1.1, by rw [← h2.1, hl]; rfl⟩
theorem NodeO.keep {w w' : World} {p : Nat → Prop} {d : Nat} {x : Nv} {t : Tr} {ys : List (Nat × Nv)} (h : NodeO w p d x t ys) (hk : ∀ a u, w.cell? a = some u → p a.block → w'.cell? a = some u) : NodeO w' p d x t ys := by
  induction h with
  | mk h1 ha hac hx h2 hb hbc hy hl hyl hc ih => exact .mk ⟨h1.1, rd_by h1.2 ha hk⟩ ha hac hx ⟨h2.1, rd_by h2.2 hb hk⟩ hb hbc hy hl hyl ih
theorem NodeO.pure {w w' : World} {p : Nat → Prop} {d : Nat} {x : Nv} {t : Tr} {ys : List (Nat × Nv)} (h : NodeO w p d x t ys) (hb : Below w.heap.size w w') : NodeO w' p d x t ys := h.keep fun _ _ hc _ => cell_pure hb hc
def Tr.pre (d : Nat) : Tr → List (Nat × Tr)
  | .mk k n u s ks l => (d, .mk k n u s ks l) :: Tr.preL (d + 1) l
where Tr.preL (d : Nat) : List Tr → List (Nat × Tr)
  | [] => []
  | t :: r => Tr.pre d t ++ Tr.preL d r
end Go.Proofs.YtfoifdoaleaekaaGreat

namespace Go.Proofs.YtfoifdoaleaekaaGreat
open Go.RowKit Go.Acc
theorem yes_spec (k n : Int) (u : Nat) (s : List UInt8) (A : Option Addr) (an ac : Nat) (B : Option Addr) (bn bc : Nat) (w : World) :
    Calls Tryz.prog 112 #[.agg #[.int .i64 k, .int .i64 n, .int .u64 (u : Int), .string ⟨s.toArray⟩, .slice A an ac, .slice B bn bc]] w fun e w' => e = .returned (.bool (decide (n = 1))) ∧ Below w.heap.size w w' := by
  go_enter Tryz.func112, Tryz.ntmps112
  go_wp2_with fail
  go_ret
  exact ⟨rfl, (Below.refl _ _).alloc (Nat.le_refl _) _⟩
set_option maxRecDepth 100000 in
set_option maxHeartbeats 2000000 in
theorem leafn_spec (M : Bp) (fl : Int) (f : Nat) (b : Bd) (k n : Int) (u : Nat) (s : List UInt8) (A : Option Addr) (an ac : Nat) (B : Option Addr) (bn bc : Nat) (w : World) (o : Nat → Nat) (h : BM M fl w o b) (hs : b.s.length < 65536) (hm : b.b.length + 15 ≤ 1048576)
    (hn : -9223372036854775808 ≤ n ∧ n ≤ 9223372036854775807) (hu : u < 18446744073709551616) (hk : k = 1 ∨ k = 2 ∨ k = 3 ∨ k = 4 ∨ k = 8 ∨ k = 9) :
    Calls Tryz.prog 124 #[.pointer (some ⟨M.β, 0, none⟩), .agg #[.int .i64 k, .int .i64 n, .int .u64 (u : Int), .string ⟨s.toArray⟩, .slice A an ac, .slice B bn bc]] w (BTo M fl (b.leaf f k n u s) w o) := by
  have HB := Lib.hid (show Below w.heap.size w (w.alloc (.cells #[.int .i64 k, .int .i64 n, .int .u64 (u : Int), .string ⟨s.toArray⟩, .slice A an ac, .slice B bn bc] 26)) from (Below.refl _ _).alloc (Nat.le_refl _) _)
  have HM := Lib.hid (h.pure HB.out)
  have HS := Lib.hid hs
  have HL := Lib.hid hm
  have HN := Lib.hid hn
  have HU := Lib.hid hu
  clear h hs hm hn hu
  rcases hk with rfl | rfl | rfl | rfl | rfl | rfl
  · go_enter Tryz.func124, Tryz.ntmps124
    go_wp2_with fail
    go_at_call 180
    refine (cnull_spec M fl b _ o HM.out HS.out).mono ?_
    rintro e w2 hR
    obtain rfl := hR.1
    have HR := Lib.hid (hR.from_pure HB.out)
    clear hR
    go_wp2_with fail
    go_end0
    have h := HR.out
    unfold Bd.leaf
    simpa using h
  · go_enter Tryz.func124, Tryz.ntmps124
    go_wp2_with fail
    go_at_call 112
    refine (yes_spec 2 n u s A an ac B bn bc _).mono ?_
    rintro e w1 ⟨rfl, hb⟩
    have HM1 := Lib.hid (HM.out.pure hb)
    have HB1 := Lib.hid (pure_below HB.out hb)
    clear hb
    generalize htt : decide (n = 1) = tt at *
    have HT := Lib.hid htt
    clear htt
    go_wp2_with fail
    go_at_call 181
    refine (cbool_spec M fl b n tt _ o HM1.out HS.out HT.out).mono ?_
    rintro e w2 hR
    obtain rfl := hR.1
    have HR := Lib.hid (hR.from_pure HB1.out)
    clear hR
    go_wp2_with fail
    go_end0
    have h := HR.out
    unfold Bd.leaf
    simpa using h
  · go_enter Tryz.func124, Tryz.ntmps124
    go_wp2_with fail
    go_at_call 182
    refine (cint_spec M fl b n _ o HM.out HS.out HN.out).mono ?_
    rintro e w2 hR
    obtain rfl := hR.1
    have HR := Lib.hid (hR.from_pure HB.out)
    clear hR
    go_wp2_with fail
    go_end0
    have h := HR.out
    unfold Bd.leaf
    simpa using h
  · go_enter Tryz.func124, Tryz.ntmps124
    go_wp2_with fail
    go_at_call 183
    refine (cuint_spec M fl b u _ o HM.out HS.out HU.out).mono ?_
    rintro e w2 hR
    obtain rfl := hR.1
    have HR := Lib.hid (hR.from_pure HB.out)
    clear hR
    go_wp2_with fail
    go_end0
    have h := HR.out
    unfold Bd.leaf
    simpa using h
  · go_enter Tryz.func124, Tryz.ntmps124
    go_wp2_with fail
    go_at_call 184
    refine (ciint_spec M fl b n _ o HM.out HS.out HL.out HN.out).mono ?_
    rintro e w2 hR
    obtain rfl := hR.1
    have HR := Lib.hid (hR.from_pure HB.out)
    clear hR
    go_wp2_with fail
    go_end0
    have h := HR.out
    unfold Bd.leaf
    simpa using h
  · go_enter Tryz.func124, Tryz.ntmps124
    go_wp2_with fail
    go_at_call 185
    refine (ciuint_spec M fl b u _ o HM.out HS.out HL.out HU.out).mono ?_
    rintro e w2 hR
    obtain rfl := hR.1
    have HR := Lib.hid (hR.from_pure HB.out)
    clear hR
    go_wp2_with fail
    go_end0
    have h := HR.out
    unfold Bd.leaf
    simpa using h
set_option maxRecDepth 100000 in
set_option maxHeartbeats 2000000 in
theorem callsleaf_spec (M : Bp) (fl : Int) (b' : Bd) (k n : Int) (u : Nat) (s : List UInt8) (A : Option Addr) (an ac : Nat) (B : Option Addr) (bn bc : Nat) (w : World) (o : Nat → Nat) (hk : 1 ≤ k ∧ k ≤ 9)
    (hL : ∀ W, Below w.heap.size w W → Calls Tryz.prog 124 #[.pointer (some ⟨M.β, 0, none⟩), .agg #[.int .i64 k, .int .i64 n, .int .u64 (u : Int), .string ⟨s.toArray⟩, .slice A an ac, .slice B bn bc]] W (BTo M fl b' W o)) :
    Calls Tryz.prog 74 #[.pointer (some ⟨M.β, 0, none⟩), .agg #[.int .i64 k, .int .i64 n, .int .u64 (u : Int), .string ⟨s.toArray⟩, .slice A an ac, .slice B bn bc]] w (BTo M fl b' w o) := by
  have hB := below_two w (.cells #[.pointer (some ⟨M.β, 0, none⟩)] 122) (.cells #[.int .i64 k, .int .i64 n, .int .u64 (u : Int), .string ⟨s.toArray⟩, .slice A an ac, .slice B bn bc] 26)
  have HB := Lib.hid hB
  have HL := Lib.hid (hL _ hB)
  have e10 : (k == 10) = false := by simp; omega
  have e11 : (k == 11) = false := by simp; omega
  have e12 : (k == 12) = false := by simp; omega
  have e13 : (k == 13) = false := by simp; omega
  have e14 : (k == 14) = false := by simp; omega
  have e15 : (k == 15) = false := by simp; omega
  have e16 : (k == 16) = false := by simp; omega
  have e17 : (k == 17) = false := by simp; omega
  clear hB hL hk
  go_enter Tryz.func74, Tryz.ntmps74
  go_wp2_with fail
  go_at_call 124
  refine HL.out.mono ?_
  rintro e w2 hR
  obtain rfl := hR.1
  have HR := Lib.hid (hR.from_pure HB.out)
  clear hR e10 e11 e12 e13 e14 e15 e16 e17
  go_wp2_with fail
  go_end0
  exact HR.out
end Go.Proofs.YtfoifdoaleaekaaGreat
