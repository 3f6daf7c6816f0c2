/-
  Package buf: Num, sum, Text.
  The arguments of a law, opened to cells: integers, slices of structs, slices of slices; and what a law's last step wants.
  Trees in memory: a node's value, its keys and children in slices; the nodes in preorder.
  Package key, plain: places that put the keys in order give the sorted tree; a checked tree, sorted, is what calls asks for. No program in sight.
  Package buf: Text, Bytes, New.
  Package stack, for the builder: copies (XStackA without the laws' helpers).
-/
import Derived.Test.YtfoifdoaleaekaaGreatQe07
namespace Go.Proofs.YtfoifdoaleaekaaGreat
open Go.RowKit Go.Acc
theorem blk_new3 (w : World) (o o' : Obj) (t : TypeId) (cs : Array Value) : Blk (((w.alloc o).alloc o').alloc (.cells cs t)) (w.heap.size + 1 + 1) t cs := by
  have h := blk_new2 (w.alloc o) o' t cs
  have e : (w.alloc o).heap.size = w.heap.size + 1 := by simp
  rw [e] at h
  exact h
set_option maxHeartbeats 1000000 in
theorem bnum1_spec (bx bw bu b y u : Nat) (l : List UInt8) (w : World) (o : Nat → Nat) (h : Buf w o b l) (hx : Blk w bx 151 #[.pointer (some ⟨b, 0, none⟩)]) (hw : Blk w bw 3 #[.int .i64 (y : Int)]) (hu : Blk w bu 22 #[.int .u64 (u : Int)])
    (hy : isW (y : Int) = true) (hf : fitsU y u = true) (hu64 : (u : Int) < 18446744073709551616) (hm : l.length + y ≤ 1048576) :
    Calls Tryz.prog 198 #[.pointer (some ⟨bw, 0, none⟩), .pointer (some ⟨bu, 0, none⟩), .pointer (some ⟨bx, 0, none⟩)] w (BufTo w o b (l ++ leBytes y u)) := by
  have w0 : w.cell? ⟨bw, 0, none⟩ = some (.int .i64 (y : Int)) := hw.cell 0
  have u0 : w.cell? ⟨bu, 0, none⟩ = some (.int .u64 (u : Int)) := hu.cell 0
  have H := Lib.hid h
  have HX := Lib.hid hx
  have HU := Lib.hid hu64
  have e1 : putE (y : Int) (fitsU (y : Int).toNat u) = 0 := by
    rw [show (y : Int).toNat = y from rfl, hf]; simp [putE, hy]
  have e2 : putB [] (y : Int) u (fitsU (y : Int).toNat u) = leBytes y u := by
    rw [show (y : Int).toNat = y from rfl, hf]; simp [putB, hy]
  have hP := put_spec none 0 0 u (y : Int) [] w (Is.nil _ _) (Nat.le_refl _) (by omega) hu64
  rw [e1, e2] at hP
  have HP := Lib.hid hP
  clear h hx hw hu hy hf hu64 e1 e2 hP
  go_enter Tryz.func198, Tryz.ntmps198
  go_wp2_with fail
  go_at_call 199
  refine HP.out.mono ?_
  rintro e w1 ⟨A, n, c, rfl, hO, hB⟩
  have hn : n = y := by rw [← hO.1, leBytes_length]
  have x1 : w1.cell? ⟨bx, 0, none⟩ = some (.pointer (some ⟨b, 0, none⟩)) := (HX.out.pure hB).cell 0
  have HI := Lib.hid (show IsB w1 A y (leBytes y u) by have h := hO.is; rw [hn] at h; exact h)
  have HN := Lib.hid hn
  have H1 := Lib.hid (H.out.pure hB)
  have HB := Lib.hid hB
  clear hO hB w0 u0 hn
  rw [HN.out]
  go_wp2_with fail
  go_at_call 197
  refine (bput_spec b y _ _ l (leBytes y u) _ o H1.out HI.out hm).mono ?_
  intro e w2 hB2
  obtain rfl := hB2.1
  have HB2 := Lib.hid hB2
  clear hB2
  go_wp2
  go_end0
  exact HB2.out.from_pure HB.out
set_option maxHeartbeats 1000000 in
theorem bnum_spec (b y u : Nat) (l : List UInt8) (w : World) (o : Nat → Nat) (h : Buf w o b l) (hy : isW (y : Int) = true) (hf : fitsU y u = true) (hu64 : (u : Int) < 18446744073709551616) (hm : l.length + y ≤ 1048576) :
    Calls Tryz.prog 133 #[.pointer (some ⟨b, 0, none⟩), .int .i64 (y : Int), .int .u64 (u : Int)] w (BufTo w o b (l ++ leBytes y u)) := by
  have H := Lib.hid h
  have HY := Lib.hid hy
  have HF := Lib.hid hf
  have HU := Lib.hid hu64
  clear h hy hf hu64
  go_enter Tryz.func133, Tryz.ntmps133
  go_wp2_with fail
  have hB : Below w.heap.size w (((w.alloc (.cells #[.pointer (some ⟨b, 0, none⟩)] 151)).alloc (.cells #[.int .i64 (y : Int)] 3)).alloc (.cells #[.int .u64 (u : Int)] 22)) := (((Below.refl _ _).alloc (Nat.le_refl _) _).alloc (by simp) _).alloc (by simp; omega) _
  have hK1 := ((Blk.new w 151 #[.pointer (some ⟨b, 0, none⟩)]).alloc (.cells #[.int .i64 (y : Int)] 3)).alloc (.cells #[.int .u64 (u : Int)] 22)
  have hK2 := (blk_new2 w (.cells #[.pointer (some ⟨b, 0, none⟩)] 151) 3 #[.int .i64 (y : Int)]).alloc (.cells #[.int .u64 (u : Int)] 22)
  have hK3 := blk_new3 w (.cells #[.pointer (some ⟨b, 0, none⟩)] 151) (.cells #[.int .i64 (y : Int)] 3) 22 #[.int .u64 (u : Int)]
  have HBW := Lib.hid hB
  refine (bwith_spec b y 198 _ _ _ HY.out Tryz.call198 ((bnum1_spec w.heap.size (w.heap.size + 1) (w.heap.size + 1 + 1) b y u l _ o (H.out.pure hB) hK1 hK2 hK3 HY.out HF.out HU.out hm).mono fun e w' h => ⟨h.1, h⟩)).mono ?_
  rintro e w' ⟨rfl, o', hB', hT⟩
  have HE := Lib.hid (show BufTo w o b (l ++ leBytes y u) (.returned (.tuple #[])) w' from BufTo.from_pure HBW.out ⟨rfl, o', hB', hT⟩)
  clear hB hK1 hK2 hK3 hB' hT HBW
  go_wp2
  go_end0
  exact HE.out
def stc (s : List UInt8) : List Value := [.string ⟨s.toArray⟩]
theorem stc_len (s : List UInt8) : (stc s).length = 1 := rfl
theorem stc_one (s : List UInt8) : ∀ u ∈ stc s, u.oneCell' = true := by
  intro u hu
  simp [stc] at hu
  subst hu
  rfl
abbrev IsS := Is stc
theorem iss_at {w : World} {A : Option Addr} {n : Nat} {l : List (List UInt8)} (h : IsS w A n l) {k : Nat} (hk : k < n) :
    ∃ b off, A = some ⟨b, off, none⟩ ∧ ∃ hk : k < l.length, w.cell? ⟨b, off + k, none⟩ = some (.string ⟨l[k].toArray⟩) := by
  obtain ⟨b, off, e, hk', hc⟩ := h.at_ stc_len (by omega) hk
  exact ⟨b, off, e, hk', by have := hc 0 (by omega); simpa [stc] using this⟩
theorem flat_take (l : List (List UInt8)) {k : Nat} (hk : k < l.length) : (l.take (k + 1)).flatten = (l.take k).flatten ++ l[k] := by
  rw [List.take_succ_eq_append_getElem hk, List.flatten_append]; simp
theorem flat_le (l : List (List UInt8)) (k : Nat) : (l.take k).flatten.length ≤ l.flatten.length := by
  conv => rhs; rw [← List.take_append_drop k l]
  rw [List.flatten_append, List.length_append]; omega
set_option maxHeartbeats 400000 in
theorem bsum_spec (A : Option Addr) (n c : Nat) (l : List (List UInt8)) (w : World) (h : IsS w A n l) (hm : l.flatten.length ≤ 1048576) (hn : n ≤ 1048576) :
    Calls Tryz.prog 202 #[.slice A n c] w fun e w' => e = .returned (.int .i64 (l.flatten.length : Int)) ∧ ∃ nd, w' = w.drewN nd := by
  go_enter Tryz.func202, Tryz.ntmps202
  go_wp2
  go_loopw [2, 7] (fun s i wr => ∃ k : Nat, k ≤ n ∧ i = .int .i64 k ∧ s = .int .i64 ((l.take k).flatten.length : Int) ∧ ∃ nd, wr = w.drewN nd) (fun _ i _ => n - (intOf i).toNat)
  case atStart => exact ⟨0, Nat.zero_le _, rfl, rfl, 0, rfl⟩
  case round =>
    obtain ⟨k, hk, rfl, rfl, nd, rfl⟩ := hrel
    by_cases hlt : k < n
    · obtain ⟨b1, o1, rfl, hk1, a0⟩ := iss_at h hlt
      have hs := Lib.hid (flat_take l hk1)
      have h1 := flat_le l (k + 1)
      rw [hs.out, List.length_append] at h1
      generalize hP : (l.take k).flatten.length = P at *
      have HPP := Lib.hid hP
      clear hP h
      go_wp2
      go_roundw
      case rel => exact ⟨k + 1, by omega, by go_num, by rw [hs.out, List.length_append, HPP.out]; go_num, ⟨_, rfl⟩⟩
      case measure => simp [intOf]; omega
    · have hk' : k = n := by omega
      have e := Lib.hid (show (l.take k).flatten.length = l.flatten.length by rw [hk', List.take_of_length_le (by rw [h.1]; exact Nat.le_refl _)])
      clear h hk'
      go_wp2
      go_ret
      exact ⟨by rw [e.out]; rfl, nd, rfl⟩
end Go.Proofs.YtfoifdoaleaekaaGreat

namespace Go.Acc
open Go.RowKit Go.ChangeShapes Go.WideShapes Go.Deep

section
variable {H : Type} {enc : TypeId × Value → H} {P : Program} {W W' : World}
theorem below_arg {t : TypeId} (hl : laidOutB P = true) (hr : P.readableRec t = true) (hrow : t < P.types.size) {v : Value} {d : DataW H} {ps : List MemPlace}
    (h : DataW.Trod enc P W 0 (fun _ => true) true t v d ps) (hb : Below W.heap.size W W') : DataW.Trod enc P W' 0 (fun b => decide (b < W.heap.size)) true t v d ps :=
  Below.trod hl hr hrow h hb (by obtain ⟨m, hm⟩ := h; exact DataW.trod_lt m _ _ _ hm)

theorem i64_bd {n : Int} (h : (Lit.int .i64 n).wf = true) : -9223372036854775808 ≤ n ∧ n ≤ 9223372036854775807 := by
  simp [Lit.wf, IntKind.min, IntKind.max, IntKind.signed, IntKind.bits] at h
  exact ⟨by omega, by omega⟩
theorem u64_bd {n : Int} (h : (Lit.int .u64 n).wf = true) : 0 ≤ n ∧ n ≤ 18446744073709551615 := by
  simp [Lit.wf, IntKind.min, IntKind.max, IntKind.signed, IntKind.bits] at h
  exact ⟨by omega, by omega⟩
theorem list_of {α : Type} (p : Nat → α → Prop) (n : Nat) (h : ∀ i, i < n → ∃ x, p i x) : ∃ l : List α, l.length = n ∧ ∀ i (hi : i < l.length), p i l[i] := by
  induction n with
  | zero => exact ⟨[], rfl, fun i hi => by simp at hi⟩
  | succ n ih =>
    obtain ⟨l, hl, hp⟩ := ih fun i hi => h i (by omega)
    obtain ⟨x, hx⟩ := h n (by omega)
    refine ⟨l ++ [x], by simp [hl], fun i hi => ?_⟩
    by_cases hin : i < l.length
    · rw [List.getElem_append_left hin]; exact hp i hin
    · have : i = n := by simp at hi; omega
      subst this
      rw [List.getElem_append_right (by omega)]
      simpa [hl] using hx

theorem add_spot {w : World} {a : Addr} {u : Value} (h : w.cell? a = some u) : a = ⟨a.block, a.off, none⟩ := by
  have := spot_of_cell h
  cases a
  simp_all

theorem is_of_elems {α : Type} {f : α → List Value} {sz : Nat} (hf : ∀ x, (f x).length = sz) (hz : 0 < sz) {w : World} {a : Addr} {n : Nat} (q : α → Prop)
    (h : ∀ i, i < n → ∃ x, q x ∧ ∀ j, j < sz → w.cell? (a.add (i * sz + j)) = (f x)[j]?) : ∃ l, Is f w (some a) n l ∧ ∀ x ∈ l, q x := by
  obtain ⟨l, hl, hp⟩ := list_of _ n h
  refine ⟨l, ⟨hl, fun t u hu => ?_⟩, fun x hx => ?_⟩
  · have ht : t < n * sz := by
      have := (List.getElem?_eq_some_iff.1 hu).1
      rw [fm_length hf, hl] at this
      exact this
    have hpos : 0 < n := by
      rcases Nat.eq_zero_or_pos n with h0 | h0
      · subst h0; simp at ht
      · exact h0
    have h0 := (hp 0 (by omega)).2 0 hz
    rw [List.getElem?_eq_getElem (by rw [hf]; exact hz)] at h0
    have ha : a = ⟨a.block, a.off, none⟩ := by
      have := add_spot h0
      simpa [Addr.add] using add_spot (w := w) (a := a) (by simpa [Addr.add] using h0)
    have hi : t / sz < l.length := by rw [hl]; exact Nat.div_lt_of_lt_mul (by rw [Nat.mul_comm]; exact ht)
    have hj : t % sz < sz := Nat.mod_lt _ hz
    have e : t / sz * sz + t % sz = t := by rw [Nat.mul_comm]; exact Nat.div_add_mod t sz
    have hc := (hp _ hi).2 _ hj
    have hu' := fm_at hf l (t / sz) (t % sz) hi hj
    rw [e, hu] at hu'
    rw [e, ← hu'] at hc
    refine ⟨a.block, a.off, by rw [← ha], ?_⟩
    rw [ha, add_none] at hc
    exact hc
  · obtain ⟨i, hi, rfl⟩ := List.mem_iff_getElem.1 hx
    exact (hp i hi).1

variable {w : World} {base : Nat} {spare : Nat → Bool} {held : Bool}
end
end Go.Acc

namespace Go.Proofs.YtfoifdoaleaekaaGreat
open Go.RowKit Go.Acc
structure Nv where
  k : Int
  n : Int
  u : Nat
  s : List UInt8
  A : Option Addr
  an : Nat
  ac : Nat
  B : Option Addr
  bn : Nat
  bc : Nat
def nvc (x : Nv) : List Value := [.int .i64 x.k, .int .i64 x.n, .int .u64 (x.u : Int), .string ⟨x.s.toArray⟩, .slice x.A x.an x.ac, .slice x.B x.bn x.bc]
theorem nvc_len (x : Nv) : (nvc x).length = 6 := rfl
theorem nvc_one (x : Nv) : ∀ u ∈ nvc x, u.oneCell' = true := by
  intro u hu
  simp [nvc] at hu
  rcases hu with rfl | rfl | rfl | rfl | rfl | rfl <;> rfl
abbrev IsN := Is nvc
abbrev OwnT := Go.Acc.Own nvc 6 26
theorem isn_at {w : World} {A : Option Addr} {n : Nat} {l : List Nv} (h : IsN w A n l) {k : Nat} {x : Nv} (hx : l[k]? = some x) :
    ∃ b off, A = some ⟨b, off, none⟩ ∧ w.cell? ⟨b, off + k * 6, none⟩ = some (.int .i64 x.k) ∧ w.cell? ⟨b, off + k * 6 + 1, none⟩ = some (.int .i64 x.n) ∧ w.cell? ⟨b, off + k * 6 + 2, none⟩ = some (.int .u64 (x.u : Int)) ∧
      w.cell? ⟨b, off + k * 6 + 3, none⟩ = some (.string ⟨x.s.toArray⟩) ∧ w.cell? ⟨b, off + k * 6 + 4, none⟩ = some (.slice x.A x.an x.ac) ∧ w.cell? ⟨b, off + k * 6 + 5, none⟩ = some (.slice x.B x.bn x.bc) := by
  have hk : k < n := by rw [← h.1]; exact (List.getElem?_eq_some_iff.1 hx).1
  obtain ⟨b, off, e, hk', hc⟩ := h.at_ nvc_len (by omega) hk
  have ex : l[k] = x := (List.getElem?_eq_some_iff.1 hx).2
  rw [ex] at hc
  exact ⟨b, off, e, hc 0 (by omega), hc 1 (by omega), hc 2 (by omega), hc 3 (by omega), hc 4 (by omega), hc 5 (by omega)⟩
inductive NodeR (w : World) (p : Nat → Prop) : Nv → Tr → Prop
  | mk {x : Nv} {ks : List (List UInt8)} {l : List Tr} {vs : List Nv} (h1 : IsS w x.A x.an ks) (ha : ∀ ad, x.A = some ad → p ad.block) (hac : x.an ≤ x.ac) (hx : x.an ≤ 1099511627776)
      (h2 : IsN w x.B x.bn vs) (hb : ∀ ad, x.B = some ad → p ad.block) (hbc : x.bn ≤ x.bc) (hy : x.bn ≤ 1099511627776) (hl : vs.length = l.length)
      (hc : ∀ (i : Nat) v t, vs[i]? = some v → l[i]? = some t → NodeR w p v t) : NodeR w p x (.mk x.k x.n x.u x.s ks l)
inductive NodeO (w : World) (p : Nat → Prop) : Nat → Nv → Tr → List (Nat × Nv) → Prop
  | mk {d : Nat} {x : Nv} {ks : List (List UInt8)} {l : List Tr} {vs : List Nv} {yss : List (List (Nat × Nv))} (h1 : IsS w x.A x.an ks) (ha : ∀ ad, x.A = some ad → p ad.block) (hac : x.an ≤ x.ac) (hx : x.an ≤ 1099511627776)
      (h2 : IsN w x.B x.bn vs) (hb : ∀ ad, x.B = some ad → p ad.block) (hbc : x.bn ≤ x.bc) (hy : x.bn ≤ 1099511627776) (hl : vs.length = l.length) (hyl : yss.length = l.length)
      (hc : ∀ (i : Nat) v t ys, vs[i]? = some v → l[i]? = some t → yss[i]? = some ys → NodeO w p (d + 1) v t ys) : NodeO w p d x (.mk x.k x.n x.u x.s ks l) ((d, x) :: yss.flatten)
theorem NodeR.ord {w : World} {p : Nat → Prop} {x : Nv} {t : Tr} (h : NodeR w p x t) : ∀ d, ∃ ys, NodeO w p d x t ys := by
  induction h with
  | @mk x ks l vs h1 ha hac hx h2 hb hbc hy hl hc ih =>
    intro d
    have hex : ∀ i, i < l.length → ∃ ys, ∀ v t, vs[i]? = some v → l[i]? = some t → NodeO w p (d + 1) v t ys := by
      intro i hi
      obtain ⟨ys, hys⟩ := ih i (vs[i]'(by omega)) l[i] (List.getElem?_eq_getElem _) (List.getElem?_eq_getElem _) (d + 1)
      refine ⟨ys, fun v t hv ht => ?_⟩
      rw [List.getElem?_eq_getElem (by omega)] at hv ht
      injection hv with hv
      injection ht with ht
      rw [← hv, ← ht]
      exact hys
    obtain ⟨yss, hyl, hp⟩ := list_of _ l.length hex
    exact ⟨_, .mk h1 ha hac hx h2 hb hbc hy hl hyl (fun i v t ys hv ht hys => by
      obtain ⟨hi, e⟩ := List.getElem?_eq_some_iff.1 hys
      rw [← e]
      exact hp i hi v t hv ht)⟩
theorem rd_by {w w' : World} {p : Nat → Prop} {A : Option Addr} {xs : List Value} (h : Rd w A xs) (ha : ∀ ad, A = some ad → p ad.block) (hk : ∀ a u, w.cell? a = some u → p a.block → w'.cell? a = some u) : Rd w' A xs := by
  intro j u hu
  obtain ⟨b, off, rfl, hc⟩ := h j u hu
  exact ⟨b, off, rfl, hk _ _ hc (ha ⟨b, off, none⟩ rfl)⟩
theorem NodeR.keep {w w' : World} {p : Nat → Prop} {x : Nv} {t : Tr} (h : NodeR w p x t) (hk : ∀ a u, w.cell? a = some u → p a.block → w'.cell? a = some u) : NodeR w' p x t := by
  induction h with
  | mk h1 ha hac hx h2 hb hbc hy hl hc ih => exact .mk ⟨h1.1, rd_by h1.2 ha hk⟩ ha hac hx ⟨h2.1, rd_by h2.2 hb hk⟩ hb hbc hy hl ih
theorem NodeR.pure {w w' : World} {p : Nat → Prop} {x : Nv} {t : Tr} (h : NodeR w p x t) (hb : Below w.heap.size w w') : NodeR w' p x t := h.keep fun _ _ hc _ => cell_pure hb hc
theorem NodeR.mono {w : World} {p q : Nat → Prop} {x : Nv} {t : Tr} (h : NodeR w p x t) (hq : ∀ k, p k → q k) : NodeR w q x t := by
  induction h with
  | mk h1 ha hac hx h2 hb hbc hy hl hc ih => exact .mk h1 (fun ad h => hq _ (ha ad h)) hac hx h2 (fun ad h => hq _ (hb ad h)) hbc hy hl ih
theorem NodeR.to_ {I : Nat → Prop} {w w' : World} {o o' : Nat → Nat} {p : Nat → Prop} {x : Nv} {t : Tr} (h : NodeR w p x t) (ht : To I w o w' o') (hp : ∀ k, p k → ¬ I (o k)) : NodeR w' p x t :=
  h.keep fun _ _ hc hpa => ht.cell hc (hp _ hpa)
theorem NodeR.fields {w : World} {p : Nat → Prop} {x : Nv} {t : Tr} (h : NodeR w p x t) : t.k = x.k ∧ t.n = x.n ∧ t.u = x.u ∧ t.s = x.s ∧ t.ks.length = x.an ∧ t.l.length = x.bn := by
  cases h with
  | mk h1 ha hac hx h2 hb hbc hy hl hc => exact ⟨rfl, rfl, rfl, rfl, h1.1, by rw [← h2.1, hl]; rfl⟩
theorem NodeO.keep {w w' : World} {p : Nat → Prop} {d : Nat} {x : Nv} {t : Tr} {ys : List (Nat × Nv)} (h : NodeO w p d x t ys) (hk : ∀ a u, w.cell? a = some u → p a.block → w'.cell? a = some u) : NodeO w' p d x t ys := by
  induction h with
  | mk h1 ha hac hx h2 hb hbc hy hl hyl hc ih => exact .mk ⟨h1.1, rd_by h1.2 ha hk⟩ ha hac hx ⟨h2.1, rd_by h2.2 hb hk⟩ hb hbc hy hl hyl ih
theorem NodeO.pure {w w' : World} {p : Nat → Prop} {d : Nat} {x : Nv} {t : Tr} {ys : List (Nat × Nv)} (h : NodeO w p d x t ys) (hb : Below w.heap.size w w') : NodeO w' p d x t ys := h.keep fun _ _ hc _ => cell_pure hb hc
def Tr.pre (d : Nat) : Tr → List (Nat × Tr)
  | .mk k n u s ks l => (d, .mk k n u s ks l) :: Tr.preL (d + 1) l
where Tr.preL (d : Nat) : List Tr → List (Nat × Tr)
  | [] => []
  | t :: r => Tr.pre d t ++ Tr.preL d r
end Go.Proofs.YtfoifdoaleaekaaGreat

namespace Go.Proofs.YtfoifdoaleaekaaGreat
open Go.Acc
theorem sort_uniq {a b : List (List UInt8 × Tr)} (hp : a.Perm b) (ha : a.Pairwise (fun x y => x.1 < y.1)) (hb : b.Pairwise (fun x y => x.1 < y.1)) : a = b :=
  hp.eq_of_pairwise (fun _ _ _ _ h h' => absurd h' (List.lt_asymm h)) ha hb
theorem sort_ps {n : Nat} {ps : List Nat} (ks : List (List UInt8)) (c : List Tr) (d : Tr) (hk : ks.length = n) (hc : c.length = n) (hd : ks.Nodup) (hp : ps.Perm (List.range n)) (ha : ∀ (i j : Nat) (hi : i < ps.length) (hj : j < ps.length), i < j → ks.getD ps[i] [] < ks.getD ps[j] []) :
    ps.map (fun p => (ks.getD p [], c.getD p d)) = sortE (ks.zip c) := by
  have hz : (List.range n).map (fun p => (ks.getD p [], c.getD p d)) = ks.zip c := by
    apply List.ext_getElem
    · simp [hk, hc]
    · intro i h1 h2
      have hi : i < n := by simpa using h1
      simp only [List.getElem_map, List.getElem_range, List.getElem_zip]
      rw [List.getD_eq_getElem?_getD, List.getElem?_eq_getElem (by omega), List.getD_eq_getElem?_getD, List.getElem?_eq_getElem (by omega)]
      rfl
  refine sort_uniq ?_ ?_ (sortE_up _ ?_)
  · have h1 := hp.map (fun p => (ks.getD p [], c.getD p d))
    rw [hz] at h1
    exact h1.trans (sortE_perm _).symm
  · rw [List.pairwise_iff_getElem]
    intro i j hi hj hij
    rw [List.getElem_map, List.getElem_map]
    exact ha i j (by simpa using hi) (by simpa using hj) hij
  · rw [List.map_fst_zip (by omega)]
    exact hd
inductive NumT : Tr → Prop
  | mk {k n : Int} {u : Nat} {s : List UInt8} {ks : List (List UInt8)} {l : List Tr} (h1 : -9223372036854775808 ≤ n ∧ n ≤ 9223372036854775807) (h2 : u < 18446744073709551616) (h : ∀ t ∈ l, NumT t) : NumT (.mk k n u s ks l)
theorem sort_nus (t : Tr) : (sortT t).n = t.n ∧ (sortT t).u = t.u ∧ (sortT t).s = t.s := by
  obtain ⟨k, n, u, s, ks, l⟩ := t
  rw [sortT]
  split <;> exact ⟨rfl, rfl, rfl⟩
theorem costL_perm {a b : List Tr} (h : a.Perm b) : Tr.costL a = Tr.costL b := by
  induction h with
  | nil => rfl
  | cons x _ ih => rw [Tr.costL, Tr.costL, ih]
  | swap x y l => rw [Tr.costL, Tr.costL, Tr.costL, Tr.costL]; omega
  | trans _ _ h1 h2 => exact h1.trans h2
theorem keysCost_perm {a b : List (List UInt8)} (h : a.Perm b) : keysCost a = keysCost b := by
  induction h with
  | nil => rfl
  | cons x _ ih => rw [keysCost, keysCost, ih]
  | swap x y l => rw [keysCost, keysCost, keysCost, keysCost]; omega
  | trans _ _ h1 h2 => exact h1.trans h2
mutual
theorem cost_sort : ∀ (t : Tr), Val t → (sortT t).cost = t.cost
  | .mk k n u s ks l, h => by
    cases h with
    | mk h1 h2 h3 h4 hl =>
      have ih := costL_sort l hl
      simp only [suchT, Bool.and_eq_true, decide_eq_true_eq] at h1
      obtain ⟨⟨⟨_, glen⟩, _⟩, _⟩ := h1
      rw [sortT]
      by_cases hk : k = 17
      · rw [if_pos hk]
        have glen : ks.length = l.length := glen hk
        have hll : (sortL l).length = l.length := by rw [sortL_map, List.length_map]
        have hp := sortE_perm (ks.zip (sortL l))
        have e1 := keysCost_perm (hp.map (·.1))
        have e2 := costL_perm (hp.map (·.2))
        rw [List.map_fst_zip (by omega)] at e1
        rw [List.map_snd_zip (by omega)] at e2
        rw [Tr.cost, Tr.cost, e1, e2, ih]
      · rw [if_neg hk, Tr.cost, Tr.cost, ih]
theorem costL_sort : ∀ (l : List Tr), (∀ t ∈ l, Val t) → Tr.costL (sortL l) = Tr.costL l
  | [], _ => rfl
  | t :: r, h => by
    rw [sortL, Tr.costL, Tr.costL, cost_sort t (h t (by simp)), costL_sort r (fun x hx => h x (by simp [hx]))]
end
mutual
/-- A tree has no more nodes than its cost. -/
theorem pre_cost : ∀ (t : Tr) (d : Nat), (Tr.pre d t).length ≤ t.cost
  | .mk k n u s ks l, d => by
    have := preL_cost l (d + 1)
    rw [Tr.pre, Tr.cost, List.length_cons]
    omega
theorem preL_cost : ∀ (l : List Tr) (d : Nat), (Tr.pre.Tr.preL d l).length ≤ Tr.costL l
  | [], _ => by simp [Tr.pre.Tr.preL]
  | t :: r, d => by
    have h1 := pre_cost t d
    have h2 := preL_cost r d
    rw [Tr.pre.Tr.preL, Tr.costL, List.length_append]
    omega
end
theorem costL_mem : ∀ {l : List Tr} {t : Tr}, t ∈ l → t.cost + 40 ≤ Tr.costL l
  | [], _, h => by simp at h
  | x :: r, t, h => by
    rw [Tr.costL]
    rcases List.mem_cons.1 h with rfl | h
    · omega
    · have := costL_mem h
      omega
theorem keysCost_mem : ∀ (l : List (List UInt8)) (s : List UInt8), s ∈ l → s.length ≤ keysCost l
  | [], _, h => by simp at h
  | x :: r, s, h => by
    rw [keysCost]
    rcases List.mem_cons.1 h with rfl | h
    · omega
    · have := keysCost_mem r s h
      omega
mutual
theorem pre_keys : ∀ (t : Tr) (d : Nat) (y : Nat × Tr), y ∈ Tr.pre d t → ∀ s ∈ y.2.ks, s.length ≤ t.cost
  | .mk k n u s ks l, d, y, hy, z, hz => by
    rw [Tr.pre] at hy
    rw [Tr.cost]
    rcases List.mem_cons.1 hy with rfl | hy
    · have := keysCost_mem ks z hz
      omega
    · have := preL_keys l (d + 1) y hy z hz
      omega
theorem preL_keys : ∀ (l : List Tr) (d : Nat) (y : Nat × Tr), y ∈ Tr.pre.Tr.preL d l → ∀ s ∈ y.2.ks, s.length ≤ Tr.costL l
  | [], _, y, hy, _, _ => by simp [Tr.pre.Tr.preL] at hy
  | t :: r, d, y, hy, z, hz => by
    rw [Tr.pre.Tr.preL] at hy
    rw [Tr.costL]
    rcases List.mem_append.1 hy with h | h
    · have := pre_keys t d y h z hz
      omega
    · have := preL_keys r d y h z hz
      omega
end
end Go.Proofs.YtfoifdoaleaekaaGreat

namespace Go.Proofs.YtfoifdoaleaekaaGreat
open Go.RowKit Go.Acc
theorem str_b (s : List UInt8) (w : World) : ∃ c w', (convert 9 29 (.string ⟨s.toArray⟩)).run Tryz.prog w = .ok (.slice (some ⟨w.heap.size, 0, none⟩) s.length c) w' ∧ IsB w' (some ⟨w.heap.size, 0, none⟩) s.length s ∧ Below w.heap.size w w' := by
  refine ⟨_, _, run_bytes_of_string w 9 29 5 ⟨s.toArray⟩ Tryz.underlying9 Tryz.underlying29 Tryz.underlying5, ?_, (Below.refl _ _).drew.alloc (Nat.le_refl _) _⟩
  refine ⟨rfl, fun j u hu => ⟨_, _, rfl, ?_⟩⟩
  have hj : j < s.length := by
    have := (List.getElem?_eq_some_iff.1 hu).1
    rw [fm_length bc_len] at this
    simpa using this
  have hg := heap_alloc_new w.drew (.cells (bytesRow ⟨s.toArray⟩ (grownCap w s.length 0 5)) 5 ((bytesRow ⟨s.toArray⟩ (grownCap w s.length 0 5)).size, (bytesRow ⟨s.toArray⟩ (grownCap w s.length 0 5)).size + 1))
  change _[w.heap.size]? = _ at hg
  rw [show (⟨s.toArray⟩ : ByteArray).size = s.length from rfl, cell_of_row _ _ _ _ _ _ hg, Nat.zero_add, bytesRow_at ⟨s.toArray⟩ _ j (by simpa using hj), ← hu]
  have h1 := fm_at bc_len s j 0 hj (by omega)
  rw [Nat.mul_one, Nat.add_zero] at h1
  rw [h1]
  rfl
set_option maxRecDepth 100000 in
set_option maxHeartbeats 1500000 in
theorem btext_spec (b n c : Nat) (A : Option Addr) (L : List (List UInt8)) (l : List UInt8) (w : World) (o : Nat → Nat) (h : Buf w o b l) (hA : IsS w A n L) (ho : ∀ ad, A = some ad → o ad.block ≠ 1) (hm : l.length + L.flatten.length ≤ 1048576) (hn : n ≤ 1000) :
    Calls Tryz.prog 134 #[.pointer (some ⟨b, 0, none⟩), .slice A n c] w (BufTo w o b (l ++ L.flatten)) := by
  have H := Lib.hid h
  have HA := Lib.hid hA
  have HOO := Lib.hid ho
  have HM := Lib.hid hm
  obtain ⟨m, hlm⟩ : ∃ m, l.length = m := ⟨_, rfl⟩
  obtain ⟨k, hk⟩ : ∃ k, L.flatten.length = k := ⟨_, rfl⟩
  have hmk : m + k ≤ 1048576 := by omega
  obtain ⟨A', n', c', hb, _⟩ := h
  have c2 : w.cell? ⟨b, 2, none⟩ = some (.int .i64 1048576) := hb.cell 2
  have HLM := Lib.hid hlm
  have HK := Lib.hid hk
  have hsum := bsum_spec A n c L w.drew hA (by omega) (by omega)
  rw [hk] at hsum
  have HS := Lib.hid hsum
  clear hb hA ho hm hlm hk hsum
  have hwr : IntKind.i64.wrap (1048576 - (m : Int)) = 1048576 - (m : Int) := wrap_in _ (by omega)
  have hlt : decide ((1048576 : Int) - (m : Int) < (k : Int)) = false := decide_eq_false (by omega)
  go_enter Tryz.func134, Tryz.ntmps134
  go_wp2_with (go_at_call 201; refine (berr_is H.out).mono ?_; rintro e w' ⟨rfl, rfl⟩)
  go_region_held3 (fun w' => w'.cell? ⟨b, 2, none⟩ = some (.int .i64 1048576)) (first | with_reducible exact c2 | with_reducible exact kdrew c2 | with_reducible exact kdrewN _ c2) (first | (go_at_call 202; (with_reducible refine HS.out.mono ?_); rintro e w' ⟨rfl, nd, rfl⟩) | (go_at_call 129; (with_reducible refine (blen_is m (H.out.drewN _) HLM.out).mono ?_); rintro e w' ⟨rfl, rfl⟩))
  have HB := Lib.hid (show Below w.heap.size w (w.drewN (1 + nd)) from below_drewN (Below.refl _ _) _)
  generalize w.drewN (1 + nd) = W at *
  clear c2 hwr hlt
  go_wp2_with fail
  go_loopw [26] (fun i wr => ∃ j : Nat, j ≤ n ∧ i = .int .i64 j ∧ ∃ o', Buf wr o' b (l ++ (L.take j).flatten) ∧ To (fun i => i = 1) w o wr o' ∧ IsS wr A n L ∧ ∀ ad, A = some ad → o' ad.block ≠ 1) (fun i _ => n - (intOf i).toNat)
  case atStart => exact ⟨0, Nat.zero_le _, rfl, o, by rw [List.take_zero, List.flatten_nil, List.append_nil]; exact H.out.pure HB.out, To.pure _ HB.out o, HA.out.pure HB.out, HOO.out⟩
  case round =>
    clear H HA HB HOO
    obtain ⟨j, hj, rfl, o', hb, ht, ha, ho⟩ := hrel
    have HB := Lib.hid hb
    have HT := Lib.hid ht
    have HA := Lib.hid ha
    have HOO := Lib.hid ho
    have hL := ha.1
    clear hb ht ha ho
    by_cases hjn : j < n
    · obtain ⟨b1, o1, rfl, hj1, a0⟩ := iss_at HA.out hjn
      have hs := flat_take L hj1
      have h1 := flat_le L (j + 1)
      rw [hs, List.length_append] at h1
      have HL1 := Lib.hid (show (l ++ (L.take j).flatten).length + L[j].length ≤ 1048576 by have := HM.out; rw [List.length_append]; omega)
      have HS := Lib.hid hs
      have hc0 : (0 : Int) ≤ (j : Int) := by omega
      obtain ⟨sj, hsj⟩ : ∃ x, L[j] = x := ⟨_, rfl⟩
      rw [hsj] at a0
      obtain ⟨cj, wj, hcv, hI, hB2⟩ := str_b sj wr
      have HI := Lib.hid hI
      have HB2 := Lib.hid hB2
      have HSJ := Lib.hid hsj
      clear hs h1 hI hB2 hsj hL HM
      go_wp2_with fail
      go_at_call 197
      refine (bput_spec b sj.length _ _ (l ++ (L.take j).flatten) sj _ o' (HB.out.pure HB2.out) HI.out (by rw [← HSJ.out]; exact HL1.out)).mono ?_
      rintro e w2 ⟨rfl, o2, hb2, ht2⟩
      have HR := Lib.hid (show Buf w2 o2 b (l ++ (L.take (j + 1)).flatten) from by rw [HS.out, HSJ.out, ← List.append_assoc]; exact hb2)
      have ht3 := To.from_pure HB2.out ht2
      have HT2 := Lib.hid ht3
      clear hb2 ht2 ht3
      go_wp2
      go_roundw
      case rel =>
        refine ⟨j + 1, by omega, by go_num, o2, HR.out, HT.out.trans HT2.out, HA.out.fr HT2.out.fr (fun ad h => HOO.out ad h), fun ad h => ?_⟩
        injection h with h
        subst h
        have hlt1 := lt_of_cell a0
        rw [HT2.out.ow _ hlt1]
        exact HOO.out ⟨b1, o1, none⟩ rfl
      case measure => simp [intOf]; omega
    · have HE := Lib.hid (show (L.take j).flatten = L.flatten by rw [List.take_of_length_le (by omega)])
      clear hL
      go_wp2
      go_end0
      exact ⟨rfl, o', by rw [← HE.out]; exact HB.out, HT.out⟩
set_option maxHeartbeats 400000 in
theorem bbytes_spec (b : Nat) (l : List UInt8) (w : World) (o : Nat → Nat) (h : Buf w o b l) (hm : l.length ≤ 1048576) :
    Calls Tryz.prog 135 #[.pointer (some ⟨b, 0, none⟩)] w (PutW w l 0) := by
  have H := Lib.hid h
  obtain ⟨A, n, c, hb, ho, _⟩ := h
  have c1 : w.cell? ⟨b, 1, none⟩ = some (.slice A n c) := hb.cell 1
  have HO := Lib.hid ho
  have HN := Lib.hid (show n ≤ 1099511627776 by have := ho.1; omega)
  clear hb ho
  go_enter Tryz.func135, Tryz.ntmps135
  go_wp2_with (go_at_call 201; refine (berr_is H.out).mono ?_; rintro e w' ⟨rfl, rfl⟩)
  refine (cloneb_spec A n c l _ HO.out.is HN.out).mono ?_
  rintro e w' ⟨A1, n1, c1', rfl, hO, hB⟩
  have HO1 := Lib.hid hO
  have HB1 := Lib.hid hB
  clear hO hB
  go_wp2
  go_ret2
  exact ⟨A1, n1, c1', rfl, HO1.out, HB1.out⟩
theorem bnew_spec (w : World) :
    Calls Tryz.prog 101 #[.int .i64 1048576] w fun e w' => ∃ b, e = .returned (.pointer (some ⟨b, 0, none⟩)) ∧ Blk w' b 208 #[.bool true, .slice none 0 0, .int .i64 1048576, .int .i64 0] ∧ w.heap.size ≤ b ∧ Below w.heap.size w w' := by
  go_enter Tryz.func101, Tryz.ntmps101
  go_wp2
  go_ret
  exact ⟨_, rfl, Blk.new w _ _, Nat.le_refl _, (Below.refl _ _).alloc (Nat.le_refl _) _⟩
end Go.Proofs.YtfoifdoaleaekaaGreat

namespace Go.Proofs.YtfoifdoaleaekaaGreat
open Go.RowKit Go.Acc

abbrev V3 := Int × Int × Int
def vc (x : V3) : List Value := [.int .i64 x.1, .int .i64 x.2.1, .int .u64 x.2.2]
theorem vc_len (x : V3) : (vc x).length = 3 := rfl
theorem vc_one (x : V3) : ∀ u ∈ vc x, u.oneCell' = true := by
  intro u hu
  simp [vc] at hu
  rcases hu with rfl | rfl | rfl <;> rfl
abbrev IsV := Is vc
abbrev OwnV := Go.Acc.Own vc 3 185
theorem isv_at {w : World} {A : Option Addr} {n : Nat} {l : List V3} (h : IsV w A n l) {k : Nat} (hk : k < n) :
    ∃ b off, A = some ⟨b, off, none⟩ ∧ ∃ hk : k < l.length, w.cell? ⟨b, off + k * 3, none⟩ = some (.int .i64 l[k].1) ∧ w.cell? ⟨b, off + k * 3 + 1, none⟩ = some (.int .i64 l[k].2.1) ∧ w.cell? ⟨b, off + k * 3 + 2, none⟩ = some (.int .u64 l[k].2.2) := by
  obtain ⟨b, off, e, hk', hc⟩ := h.at_ vc_len (by omega) hk
  exact ⟨b, off, e, hk', hc 0 (by omega), hc 1 (by omega), hc 2 (by omega)⟩

theorem info_v : (Tryz.prog.info? 185).map (fun i => (i.zero, i.size, i.bytes)) = some (some (.agg #[.int .i64 0, .int .i64 0, .int .u64 0]), 3, 24) := by kernel_rfl

def Copied (w : World) (m : List V3) (e : Ending) (w' : World) : Prop :=
  ∃ A n c, e = .returned (.slice A n c) ∧ OwnV w' w.heap.size A n c m ∧ Below w.heap.size w w'
theorem copied_post {w w1 w' : World} {A : Option Addr} {n c : Nat} {l m : List V3} (h : OwnV w' w.heap.size A n c l) (hl : l = m) (h1 : Below w.heap.size w w1) {S : Nat → Prop} (hg : Fr S w1 w') (hS : ∀ k, k < w.heap.size → ¬ S k) : Copied w m (.returned (.slice A n c)) w' := by
  subst hl
  exact ⟨A, n, c, rfl, h, h1.trans (hg.belowB hS h1.size)⟩

set_option maxHeartbeats 400000 in
theorem clone_spec (A : Option Addr) (n c : Nat) (l : List V3) (w : World) (h : IsV w A n l) (hl : n ≤ 65536) :
    Calls Tryz.prog 232 #[.slice A n c] w (Copied w l) := by
  have hnil := fun (w : World) (A : Option Addr) (n c : Nat) => Lib.run_eql_slice_nil (P := Tryz.prog) w 160 185 A n c 0 0 Tryz.underlying160
  rcases A with _ | a
  · obtain ⟨rfl, rfl⟩ := h.none_ vc_len (by omega)
    clear h hl
    go_enter Tryz.func232, Tryz.ntmps232
    go_wp2_with fail
    go_ret
    exact ⟨none, 0, 0, rfl, Own.nil _ _, Below.refl _ _⟩
  · have hr : IsV (w.alloc (.cells #[] 185)) (some a) n l := h.alloc _
    have ho : OwnV (w.alloc (.cells #[] 185)) w.heap.size (some ⟨w.heap.size, 0, none⟩) 0 0 [] := ⟨rfl, World.ownsRow_lit w #[] 0 (Nat.le_refl _) (Nat.zero_le _) rfl⟩
    have HR := Lib.hid hr
    clear h hr
    go_enter Tryz.func232, Tryz.ntmps232
    go_wp2_with (at_builtin; refine wpl_app _ rfl (.tmp 5) (.tmp 6) _ rfl 185 _ 3 24 Tryz.underlying160 info_v rfl (by omega) vc_len vc_one _ _ _ _ _ rfl ho _ _ _ _ rfl HR.out (by omega) (by simp) ?_; intro A1 c1 w1 hown1 hfr1 hat1)
    go_ret
    exact copied_post (by simpa using hown1) rfl ((Below.refl _ _).alloc (Nat.le_refl _) _) hfr1 (by rintro k hk ⟨ad, h, h'⟩; injection h with h; subst h; simp at h'; omega)

end Go.Proofs.YtfoifdoaleaekaaGreat
