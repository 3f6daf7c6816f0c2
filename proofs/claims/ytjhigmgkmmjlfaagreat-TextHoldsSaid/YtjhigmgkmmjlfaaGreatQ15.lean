/-
  The arguments of a law, opened to cells: integers, slices of structs, slices of slices; and what a law's last step wants.
  Trees in memory: a node's value, its keys and children in slices; the nodes in preorder.
  Package fit: the widths, one after another, and the first at which a function says yes.
-/
import Derived.Test.YtjhigmgkmmjlfaaGreatQ08
import Derived.Deep.DeepCutAuto
import Derived.RangeFuncNested
import Derived.RangeFuncBound
import Derived.RangeFuncCalls
import Derived.RangeFuncLeaves
import Derived.Shelf.Abstract
import Derived.Shelf.RegionOpen
import Derived.OwnWalkIn
import Derived.TacticsInMore
import Derived.LoopNIn
import Derived.LoopIn
namespace Go.Acc
open Go.RowKit Go.ChangeShapes Go.WideShapes Go.Deep

section
variable {H : Type} {enc : TypeId × Value → H} {P : Program} {W W' : World}
theorem below_arg {t : TypeId} (hl : laidOutB P = true) (hr : P.readableRec t = true) (hrow : t < P.types.size) {v : Value} {d : DataW H} {ps : List MemPlace}
    (h : DataW.Trod enc P W 0 (fun _ => true) true t v d ps) (hb : Below W.heap.size W W') : DataW.Trod enc P W' 0 (fun b => decide (b < W.heap.size)) true t v d ps :=
  Below.trod hl hr hrow h hb (by obtain ⟨m, hm⟩ := h; exact DataW.trod_lt m _ _ _ hm)

/-- An integer's bounds. -/
theorem i64_bd {n : Int} (h : (Lit.int .i64 n).wf = true) : -9223372036854775808 ≤ n ∧ n ≤ 9223372036854775807 := by
  simp [Lit.wf, IntKind.min, IntKind.max, IntKind.signed, IntKind.bits] at h
  exact ⟨by omega, by omega⟩
theorem u64_bd {n : Int} (h : (Lit.int .u64 n).wf = true) : 0 ≤ n ∧ n ≤ 18446744073709551615 := by
  simp [Lit.wf, IntKind.min, IntKind.max, IntKind.signed, IntKind.bits] at h
  exact ⟨by omega, by omega⟩
theorem u8_bd {n : Int} (h : (Lit.int .u8 n).wf = true) : 0 ≤ n ∧ n ≤ 255 := by
  simp [Lit.wf, IntKind.min, IntKind.max, IntKind.signed, IntKind.bits] at h
  exact ⟨by omega, by omega⟩

/-- Elements found one by one make a list. -/
theorem list_of {α : Type} (p : Nat → α → Prop) (n : Nat) (h : ∀ i, i < n → ∃ x, p i x) : ∃ l : List α, l.length = n ∧ ∀ i (hi : i < l.length), p i l[i] := by
  induction n with
  | zero => exact ⟨[], rfl, fun i hi => by simp at hi⟩
  | succ n ih =>
    obtain ⟨l, hl, hp⟩ := ih fun i hi => h i (by omega)
    obtain ⟨x, hx⟩ := h n (by omega)
    refine ⟨l ++ [x], by simp [hl], fun i hi => ?_⟩
    by_cases hin : i < l.length
    · rw [List.getElem_append_left hin]; exact hp i hin
    · have : i = n := by simp at hi; omega
      subst this
      rw [List.getElem_append_right (by omega)]
      simpa [hl] using hx

theorem add_spot {w : World} {a : Addr} {u : Value} (h : w.cell? a = some u) : a = ⟨a.block, a.off, none⟩ := by
  have := spot_of_cell h
  cases a
  simp_all

/-- A slice whose elements read, one by one, as elements of f. -/
theorem is_of_elems {α : Type} {f : α → List Value} {sz : Nat} (hf : ∀ x, (f x).length = sz) (hz : 0 < sz) {w : World} {a : Addr} {n : Nat} (q : α → Prop)
    (h : ∀ i, i < n → ∃ x, q x ∧ ∀ j, j < sz → w.cell? (a.add (i * sz + j)) = (f x)[j]?) : ∃ l, Is f w (some a) n l ∧ ∀ x ∈ l, q x := by
  obtain ⟨l, hl, hp⟩ := list_of _ n h
  refine ⟨l, ⟨hl, fun t u hu => ?_⟩, fun x hx => ?_⟩
  · have ht : t < n * sz := by
      have := (List.getElem?_eq_some_iff.1 hu).1
      rw [fm_length hf, hl] at this
      exact this
    have hpos : 0 < n := by
      rcases Nat.eq_zero_or_pos n with h0 | h0
      · subst h0; simp at ht
      · exact h0
    have h0 := (hp 0 (by omega)).2 0 hz
    rw [List.getElem?_eq_getElem (by rw [hf]; exact hz)] at h0
    have ha : a = ⟨a.block, a.off, none⟩ := by
      have := add_spot h0
      simpa [Addr.add] using add_spot (w := w) (a := a) (by simpa [Addr.add] using h0)
    have hi : t / sz < l.length := by rw [hl]; exact Nat.div_lt_of_lt_mul (by rw [Nat.mul_comm]; exact ht)
    have hj : t % sz < sz := Nat.mod_lt _ hz
    have e : t / sz * sz + t % sz = t := by rw [Nat.mul_comm]; exact Nat.div_add_mod t sz
    have hc := (hp _ hi).2 _ hj
    have hu' := fm_at hf l (t / sz) (t % sz) hi hj
    rw [e, hu] at hu'
    rw [e, ← hu'] at hc
    refine ⟨a.block, a.off, by rw [← ha], ?_⟩
    rw [ha, add_none] at hc
    exact hc
  · obtain ⟨i, hi, rfl⟩ := List.mem_iff_getElem.1 hx
    exact (hp i hi).1

variable {w : World} {base : Nat} {spare : Nat → Bool} {held : Bool}
/-- A slice of structs of one-cell fields: each field of each element, and its own reading. -/
theorem open_fields {t e : TypeId} {fs : Array Field} {fuel : Nat} {cs : List Value} {x : DataW H × List MemPlace} (ht : P.underlying t = some (.slice e)) (he : P.underlying e = some (.struct fs))
    (hone : oneCellFields P fs = true) (hC : P.cellsOf e = fs.size) (h : DataW.trod enc P w base spare held fuel t cs = some x) :
    cs = [.slice none 0 0] ∨
    ∃ (a : Addr) (len cap : Nat), cs = [.slice (some a) len cap] ∧ len ≤ cap ∧ cap ≤ maxLen ∧
      ∀ i, i < len → ∃ n, ∀ (j : Nat) (f : Field), fs[j]? = some f → ∃ (v : Value) (y : DataW H × List MemPlace), w.cell? (a.add (i * fs.size + j)) = some v ∧ DataW.trod enc P w base spare held n f.type [v] = some y := by
  rcases open_slice ht h with ⟨h0, _⟩ | ⟨a, len, cap, m, n, D, Pl, hcs, hb, hl, hm, hmm, _, hi⟩
  · exact .inl h0
  · refine .inr ⟨a, len, cap, hcs, hl, hm, fun i hil => ?_⟩
    obtain ⟨cs', hc, ht'⟩ := hi i (by rw [hmm]; split <;> omega)
    rw [hC] at hc
    obtain ⟨ys, n', _, _, _, hyl, hf⟩ := DataW.trod_struct he ht'
    obtain ⟨_, hcl, hat⟩ := World.cells?_some hc
    refine ⟨n', fun j f hj => ?_⟩
    obtain ⟨ho, hk⟩ := hone_of hone j f hj
    have hjl : j < fs.size := (Array.getElem?_eq_some_iff.1 hj).1
    have hcell := hat j hjl
    have hv : cs'[j]? = some (cs'[j]'(by omega)) := List.getElem?_eq_getElem (by omega)
    have h1 := hf j f hj
    rw [ho, hk] at h1
    have hone' : (cs'.drop j).take 1 = [cs'[j]'(by omega)] := by
      rw [List.drop_eq_getElem_cons (by omega)]
      rfl
    rw [hone'] at h1
    have hys : ys[j]? = some (ys[j]'(by omega)) := List.getElem?_eq_getElem (by omega)
    refine ⟨_, _, ?_, h1.trans hys⟩
    rw [← Go.Deep.add_add, hcell, hv]
end
end Go.Acc

namespace Go.Proofs.YtjhigmgkmmjlfaaGreat
open Go.RowKit Go.Acc
/-- A node as it lies in memory: its fields, its two slices. -/
structure Nv where
  k : Int
  n : Int
  u : Nat
  s : List UInt8
  A : Option Addr
  an : Nat
  ac : Nat
  B : Option Addr
  bn : Nat
  bc : Nat
def nvc (x : Nv) : List Value := [.int .i64 x.k, .int .i64 x.n, .int .u64 (x.u : Int), .string ⟨x.s.toArray⟩, .slice x.A x.an x.ac, .slice x.B x.bn x.bc]
theorem nvc_len (x : Nv) : (nvc x).length = 6 := rfl
theorem nvc_one (x : Nv) : ∀ u ∈ nvc x, u.oneCell' = true := by
  intro u hu
  simp [nvc] at hu
  rcases hu with rfl | rfl | rfl | rfl | rfl | rfl <;> rfl
abbrev IsN := Is nvc
abbrev OwnT := Go.Acc.Own nvc 6 26
theorem isn_at {w : World} {A : Option Addr} {n : Nat} {l : List Nv} (h : IsN w A n l) {k : Nat} {x : Nv} (hx : l[k]? = some x) :
    ∃ b off, A = some ⟨b, off, none⟩ ∧ w.cell? ⟨b, off + k * 6, none⟩ = some (.int .i64 x.k) ∧ w.cell? ⟨b, off + k * 6 + 1, none⟩ = some (.int .i64 x.n) ∧ w.cell? ⟨b, off + k * 6 + 2, none⟩ = some (.int .u64 (x.u : Int)) ∧
      w.cell? ⟨b, off + k * 6 + 3, none⟩ = some (.string ⟨x.s.toArray⟩) ∧ w.cell? ⟨b, off + k * 6 + 4, none⟩ = some (.slice x.A x.an x.ac) ∧ w.cell? ⟨b, off + k * 6 + 5, none⟩ = some (.slice x.B x.bn x.bc) := by
  have hk : k < n := by rw [← h.1]; exact (List.getElem?_eq_some_iff.1 hx).1
  obtain ⟨b, off, e, hk', hc⟩ := h.at_ nvc_len (by omega) hk
  have ex : l[k] = x := (List.getElem?_eq_some_iff.1 hx).2
  rw [ex] at hc
  exact ⟨b, off, e, hc 0 (by omega), hc 1 (by omega), hc 2 (by omega), hc 3 (by omega), hc 4 (by omega), hc 5 (by omega)⟩
/-- The node x reads as the tree t; what is read lies in blocks of p. -/
inductive NodeR (w : World) (p : Nat → Prop) : Nv → Tr → Prop
  | mk {x : Nv} {ks : List (List UInt8)} {l : List Tr} {vs : List Nv} (h1 : IsS w x.A x.an ks) (ha : ∀ ad, x.A = some ad → p ad.block) (hac : x.an ≤ x.ac) (hx : x.ac ≤ 1099511627776)
      (h2 : IsN w x.B x.bn vs) (hb : ∀ ad, x.B = some ad → p ad.block) (hbc : x.bn ≤ x.bc) (hy : x.bc ≤ 1099511627776) (hl : vs.length = l.length)
      (hc : ∀ (i : Nat) v t, vs[i]? = some v → l[i]? = some t → NodeR w p v t) : NodeR w p x (.mk x.k x.n x.u x.s ks l)
/-- .. and its nodes, with their levels, are ys in preorder. -/
inductive NodeO (w : World) (p : Nat → Prop) : Nat → Nv → Tr → List (Nat × Nv) → Prop
  | mk {d : Nat} {x : Nv} {ks : List (List UInt8)} {l : List Tr} {vs : List Nv} {yss : List (List (Nat × Nv))} (h1 : IsS w x.A x.an ks) (ha : ∀ ad, x.A = some ad → p ad.block) (hac : x.an ≤ x.ac) (hx : x.ac ≤ 1099511627776)
      (h2 : IsN w x.B x.bn vs) (hb : ∀ ad, x.B = some ad → p ad.block) (hbc : x.bn ≤ x.bc) (hy : x.bc ≤ 1099511627776) (hl : vs.length = l.length) (hyl : yss.length = l.length)
      (hc : ∀ (i : Nat) v t ys, vs[i]? = some v → l[i]? = some t → yss[i]? = some ys → NodeO w p (d + 1) v t ys) : NodeO w p d x (.mk x.k x.n x.u x.s ks l) ((d, x) :: yss.flatten)
theorem NodeR.ord {w : World} {p : Nat → Prop} {x : Nv} {t : Tr} (h : NodeR w p x t) : ∀ d, ∃ ys, NodeO w p d x t ys := by
  induction h with
  | @mk x ks l vs h1 ha hac hx h2 hb hbc hy hl hc ih =>
    intro d
    have hex : ∀ i, i < l.length → ∃ ys, ∀ v t, vs[i]? = some v → l[i]? = some t → NodeO w p (d + 1) v t ys := by
      intro i hi
      obtain ⟨ys, hys⟩ := ih i (vs[i]'(by omega)) l[i] (List.getElem?_eq_getElem _) (List.getElem?_eq_getElem _) (d + 1)
      refine ⟨ys, fun v t hv ht => ?_⟩
      rw [List.getElem?_eq_getElem (by omega)] at hv ht
      injection hv with hv
      injection ht with ht
      rw [← hv, ← ht]
      exact hys
    obtain ⟨yss, hyl, hp⟩ := list_of _ l.length hex
    exact ⟨_, .mk h1 ha hac hx h2 hb hbc hy hl hyl (fun i v t ys hv ht hys => by
      obtain ⟨hi, e⟩ := List.getElem?_eq_some_iff.1 hys
      rw [← e]
      exact hp i hi v t hv ht)⟩
theorem NodeO.node {w : World} {p : Nat → Prop} {d : Nat} {x : Nv} {t : Tr} {ys : List (Nat × Nv)} (h : NodeO w p d x t ys) : NodeR w p x t := by
  induction h with
  | @mk d x ks l vs yss h1 ha hac hx h2 hb hbc hy hl hyl hc ih =>
    refine .mk h1 ha hac hx h2 hb hbc hy hl fun i v t hv ht => ?_
    have hi := (List.getElem?_eq_some_iff.1 ht).1
    exact ih i v t (yss[i]'(by omega)) hv ht (List.getElem?_eq_getElem _)
theorem rd_by {w w' : World} {p : Nat → Prop} {A : Option Addr} {xs : List Value} (h : Rd w A xs) (ha : ∀ ad, A = some ad → p ad.block) (hk : ∀ a u, w.cell? a = some u → p a.block → w'.cell? a = some u) : Rd w' A xs := by
  intro j u hu
  obtain ⟨b, off, rfl, hc⟩ := h j u hu
  exact ⟨b, off, rfl, hk _ _ hc (ha ⟨b, off, none⟩ rfl)⟩
/-- What was read still reads, where the blocks of p lie as they lay. -/
theorem NodeR.keep {w w' : World} {p : Nat → Prop} {x : Nv} {t : Tr} (h : NodeR w p x t) (hk : ∀ a u, w.cell? a = some u → p a.block → w'.cell? a = some u) : NodeR w' p x t := by
  induction h with
  | mk h1 ha hac hx h2 hb hbc hy hl hc ih => exact .mk ⟨h1.1, rd_by h1.2 ha hk⟩ ha hac hx ⟨h2.1, rd_by h2.2 hb hk⟩ hb hbc hy hl ih
theorem NodeR.pure {w w' : World} {p : Nat → Prop} {x : Nv} {t : Tr} (h : NodeR w p x t) (hb : Below w.heap.size w w') : NodeR w' p x t := h.keep fun _ _ hc _ => cell_pure hb hc
theorem NodeR.mono {w : World} {p q : Nat → Prop} {x : Nv} {t : Tr} (h : NodeR w p x t) (hq : ∀ k, p k → q k) : NodeR w q x t := by
  induction h with
  | mk h1 ha hac hx h2 hb hbc hy hl hc ih => exact .mk h1 (fun ad h => hq _ (ha ad h)) hac hx h2 (fun ad h => hq _ (hb ad h)) hbc hy hl ih
theorem NodeR.to_ {I : Nat → Prop} {w w' : World} {o o' : Nat → Nat} {p : Nat → Prop} {x : Nv} {t : Tr} (h : NodeR w p x t) (ht : To I w o w' o') (hp : ∀ k, p k → ¬ I (o k)) : NodeR w' p x t :=
  h.keep fun _ _ hc hpa => ht.cell hc (hp _ hpa)
theorem NodeR.fields {w : World} {p : Nat → Prop} {x : Nv} {t : Tr} (h : NodeR w p x t) : t.k = x.k ∧ t.n = x.n ∧ t.u = x.u ∧ t.s = x.s ∧ t.ks.length = x.an ∧ t.l.length = x.bn := by
  cases h with
  | mk h1 ha hac hx h2 hb hbc hy hl hc => exact ⟨rfl, rfl, rfl, rfl, h1.1, by rw [← h2.1, hl]; rfl⟩
theorem NodeO.keep {w w' : World} {p : Nat → Prop} {d : Nat} {x : Nv} {t : Tr} {ys : List (Nat × Nv)} (h : NodeO w p d x t ys) (hk : ∀ a u, w.cell? a = some u → p a.block → w'.cell? a = some u) : NodeO w' p d x t ys := by
  induction h with
  | mk h1 ha hac hx h2 hb hbc hy hl hyl hc ih => exact .mk ⟨h1.1, rd_by h1.2 ha hk⟩ ha hac hx ⟨h2.1, rd_by h2.2 hb hk⟩ hb hbc hy hl hyl ih
theorem NodeO.pure {w w' : World} {p : Nat → Prop} {d : Nat} {x : Nv} {t : Tr} {ys : List (Nat × Nv)} (h : NodeO w p d x t ys) (hb : Below w.heap.size w w') : NodeO w' p d x t ys := h.keep fun _ _ hc _ => cell_pure hb hc
/-- The nodes of a tree in preorder, with their levels. -/
def Tr.pre (d : Nat) : Tr → List (Nat × Tr)
  | .mk k n u s ks l => (d, .mk k n u s ks l) :: Tr.preL (d + 1) l
where Tr.preL (d : Nat) : List Tr → List (Nat × Tr)
  | [] => []
  | t :: r => Tr.pre d t ++ Tr.preL d r
end Go.Proofs.YtjhigmgkmmjlfaaGreat

namespace Go.Proofs.YtjhigmgkmmjlfaaGreat
open Go.RowKit Go.Acc
attribute [local go_sem] Oper.semAt_some
theorem fwithin_spec (n : Nat) (w : World) (hn : n ≤ 1073741824) : Calls Tryz.prog 213 #[.int .i64 (n : Int)] w fun e w' => e = .returned (.bool true) ∧ w = w' := by
  have h0 : (0 : Int) ≤ (n : Int) := by omega
  have h1 : (n : Int) ≤ 1073741824 := by omega
  go_enter Tryz.func213, Tryz.ntmps213
  go_wp2
  go_ret
  exact ⟨rfl, rfl⟩
theorem bkept {W W' : World} {row : Option Nat} (hg : W.grownBy W' row) (hr : ∀ r, row = some r → ∃ o : Obj, W.heap[r]? = some o ∧ o.isCells = false) {g : Nat} {t : TypeId} {cs : Array Value} (h : Blk W g t cs) : Blk W' g t cs := (grownBy_keeps_cells hg hr h rfl).trans h
theorem keepsFrom_p {B : Nat} {W W' : World} (hb : Below W.heap.size W W') : KeepsFrom B W W' := ⟨hb.size, fun k _ _ hk _ => (hb.block k (Array.getElem?_eq_some_iff.1 hk).1).trans hk⟩
theorem wpin_a {F : Fence} {n : Nat} {P : Program} {c : Code} {Q : Exit → Act → World → Prop} {a : Act} {w : World} (h : ∀ a0, a0 = a → c.wpIn F n P Q a0 w) : c.wpIn F n P Q a w := h a rfl
/-- The widths, by their codes. -/
def ws4 : List (Fin 4) := [0, 1, 2, 3]
def encW (i : Fin 4) : Array Value := #[.int .i64 ((2 ^ i.val : Nat) : Int)]
set_option maxRecDepth 100000 in
set_option maxHeartbeats 2000000 in
theorem widths1_stops (w : World) (n : Nat) (hn : 1 ≤ n) :
    SeqStopsK Fence.wide n Tryz.prog 273 #[] encW (fun _ _ => True) (fun xs => xs = ws4) (fun pre => pre <+: ws4) 4 w := by
  intro l J Jx W hW hJ hJx hY h0
  have HJ := Lib.hid h0
  have HY := Lib.hid hY
  clear hW h0 hJ hY hJx
  refine callsIn_wide.2 ?_
  go_enter Tryz.func273, Tryz.ntmps273
  go_wp2_with fail
  go_loopw [2] (fun u wr => ∃ k : Nat, k ≤ 4 ∧ u = .int .i64 ((2 ^ k : Nat) : Int) ∧ J (ws4.take k) wr) (fun u _ => 16 - (intOf u).toNat)
  case atStart => exact ⟨0, by omega, rfl, HJ.out⟩
  case round =>
    clear HJ
    obtain ⟨k, hk, rfl, hJ1⟩ := hrel
    have HJ := Lib.hid hJ1
    clear hJ1
    obtain rfl | rfl | rfl | rfl | rfl : k = 0 ∨ k = 1 ∨ k = 2 ∨ k = 3 ∨ k = 4 := by omega
    · have HJK := Lib.hid (show J (ws4.take 0) wr from HJ.out)
      simp only [Nat.reducePow, Int.cast_ofNat_Int]
      clear HJ
      go_upto_region 3 with fail
      obtain ⟨fn, tmps, assign, body, hy, hR⟩ := HY.out (ws4.take 0) 0 _ HJK.out (by decide)
      rw [show encW 0 = #[.int .i64 1] from rfl] at hy
      refine (wpIn_wide (n := n)).1 ?_
      gi_wp2
      refine hR.mono ?_
      rintro e W9 (⟨rfl, hJ9, -⟩ | ⟨rfl, hJ9⟩)
      · have HJ9 := Lib.hid hJ9
        clear hJ9 hR hy HJK
        gi_wp2
        go_wp2_with fail
        go_roundw
        case rel => exact ⟨0 + 1, by omega, rfl, HJ9.out⟩
        case measure => simp [intOf]
      · have HJ9 := Lib.hid hJ9
        clear hJ9 hR hy HJK
        gi_wp2
        go_wp2_with fail
        refine bodyPost_ret (results_none rfl _ _ _) rfl ?_
        exact ⟨⟨_, rfl⟩, .inr ⟨[0], by decide, HJ9.out⟩⟩
    · have HJK := Lib.hid (show J (ws4.take 1) wr from HJ.out)
      simp only [Nat.reducePow, Int.cast_ofNat_Int]
      clear HJ
      go_upto_region 3 with fail
      obtain ⟨fn, tmps, assign, body, hy, hR⟩ := HY.out (ws4.take 1) 1 _ HJK.out (by decide)
      rw [show encW 1 = #[.int .i64 2] from rfl] at hy
      refine (wpIn_wide (n := n)).1 ?_
      gi_wp2
      refine hR.mono ?_
      rintro e W9 (⟨rfl, hJ9, -⟩ | ⟨rfl, hJ9⟩)
      · have HJ9 := Lib.hid hJ9
        clear hJ9 hR hy HJK
        gi_wp2
        go_wp2_with fail
        go_roundw
        case rel => exact ⟨1 + 1, by omega, rfl, HJ9.out⟩
        case measure => simp [intOf]
      · have HJ9 := Lib.hid hJ9
        clear hJ9 hR hy HJK
        gi_wp2
        go_wp2_with fail
        refine bodyPost_ret (results_none rfl _ _ _) rfl ?_
        exact ⟨⟨_, rfl⟩, .inr ⟨[0, 1], by decide, HJ9.out⟩⟩
    · have HJK := Lib.hid (show J (ws4.take 2) wr from HJ.out)
      simp only [Nat.reducePow, Int.cast_ofNat_Int]
      clear HJ
      go_upto_region 3 with fail
      obtain ⟨fn, tmps, assign, body, hy, hR⟩ := HY.out (ws4.take 2) 2 _ HJK.out (by decide)
      rw [show encW 2 = #[.int .i64 4] from rfl] at hy
      refine (wpIn_wide (n := n)).1 ?_
      gi_wp2
      refine hR.mono ?_
      rintro e W9 (⟨rfl, hJ9, -⟩ | ⟨rfl, hJ9⟩)
      · have HJ9 := Lib.hid hJ9
        clear hJ9 hR hy HJK
        gi_wp2
        go_wp2_with fail
        go_roundw
        case rel => exact ⟨2 + 1, by omega, rfl, HJ9.out⟩
        case measure => simp [intOf]
      · have HJ9 := Lib.hid hJ9
        clear hJ9 hR hy HJK
        gi_wp2
        go_wp2_with fail
        refine bodyPost_ret (results_none rfl _ _ _) rfl ?_
        exact ⟨⟨_, rfl⟩, .inr ⟨[0, 1, 2], by decide, HJ9.out⟩⟩
    · have HJK := Lib.hid (show J (ws4.take 3) wr from HJ.out)
      simp only [Nat.reducePow, Int.cast_ofNat_Int]
      clear HJ
      go_upto_region 3 with fail
      obtain ⟨fn, tmps, assign, body, hy, hR⟩ := HY.out (ws4.take 3) 3 _ HJK.out (by decide)
      rw [show encW 3 = #[.int .i64 8] from rfl] at hy
      refine (wpIn_wide (n := n)).1 ?_
      gi_wp2
      refine hR.mono ?_
      rintro e W9 (⟨rfl, hJ9, -⟩ | ⟨rfl, hJ9⟩)
      · have HJ9 := Lib.hid hJ9
        clear hJ9 hR hy HJK
        gi_wp2
        go_wp2_with fail
        go_roundw
        case rel => exact ⟨3 + 1, by omega, rfl, HJ9.out⟩
        case measure => simp [intOf]
      · have HJ9 := Lib.hid hJ9
        clear hJ9 hR hy HJK
        gi_wp2
        go_wp2_with fail
        refine bodyPost_ret (results_none rfl _ _ _) rfl ?_
        exact ⟨⟨_, rfl⟩, .inr ⟨[0, 1, 2, 3], by decide, HJ9.out⟩⟩
    · simp only [Nat.reducePow, Int.cast_ofNat_Int]
      go_wp2_with fail
      go_end0
      exact ⟨⟨_, rfl⟩, .inl ⟨_, rfl, HJ.out⟩⟩
end Go.Proofs.YtjhigmgkmmjlfaaGreat
