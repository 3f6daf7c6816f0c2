/-
  The builder in memory: its parts, each with its owner; what other calls leave alone.
  Package build: none, Err, fail, push, unless, inline; the inline values.
  Package width: the least width of an integer.
  Package width: the least width of a signed integer; package minimal: whether a number fits.
  Package build: unless, inline; the values of numbers and booleans.
-/
import Derived.Test.YtfoifdoaleaekaaGreatQf12
import Derived.Maps.Own
import Derived.Shelf.Strconv.Itoa0
import Derived.Ground.NamesProg
import Derived.Laws.DeepNot64
namespace Go.Proofs.YtfoifdoaleaekaaGreat
open Go.RowKit Go.Acc
def vv (v : Bv) : V3 := (v.t, v.w, v.n)
def StkO (w : World) (o : Nat → Nat) (b : Nat) (s : List Bv) : Prop := ∃ g, Stk w 0 b g (s.map vv) ∧ o b = 3 ∧ ∀ k, g = some k → o k = 3
def inc (n : Nat) : List Value := [.int .i64 (n : Int)]
theorem inc_len (x : Nat) : (inc x).length = 1 := rfl
theorem inc_one (x : Nat) : ∀ u ∈ inc x, u.oneCell' = true := by
  intro u hu
  simp [inc] at hu
  subst hu
  rfl
abbrev OwnS := Go.Acc.Own stc 1 9
abbrev OwnN := Go.Acc.Own inc 1 3
def PoolO (w : World) (o : Nat → Nat) (i p : Nat) (m : List (List UInt8 × Nat)) : Prop :=
  ∃ A1 A2 n c1 c2 ks ns, Blk w p 216 #[.slice A1 n c1, .slice A2 n c2, .bool true] ∧ OwnS w 0 A1 n c1 ks ∧ OwnN w 0 A2 n c2 ns ∧ Of o A1 i ∧ Of o A2 i ∧ o p = i ∧
    ks.Pairwise (fun x y => Op.bytesLess x y = true) ∧ (∀ s, getP m s = getP (ks.zip ns) s) ∧ n ≤ m.length ∧ ∀ a ∈ ns, a ≤ 1048576
def NamesO (w : World) (o : Nat → Nat) (p : Nat) (m : List (Nat × List UInt8)) : Prop :=
  o p = 7 ∧ ∃ n D, w.ownsMap (H := Unit) Tryz.prog 22 (plainElem Tryz.prog 9) p n D ∧ n ≤ m.length ∧ ∀ a s, m.find? (fun x => x.1 == a) = some (a, s) → D.atKey (.int .u64 a) (.lit (.string [])) = .lit (.string s)
structure Bp where
  β : Nat
  bb : Nat
  sb : Nat
  kb : Nat
  tb : Nat
  lb : Nat
  mb : Nat
def HeadO (M : Bp) (fl : Int) (w : World) (o : Nat → Nat) (vals : List Bv) : Prop :=
  ∃ A n c, Blk w M.β 164 #[.pointer (some ⟨M.bb, 0, none⟩), .pointer (some ⟨M.sb, 0, none⟩), .int .i64 0, .int .i64 fl, .pointer (some ⟨M.kb, 0, none⟩), .pointer (some ⟨M.tb, 0, none⟩), .pointer (some ⟨M.lb, 0, none⟩), .map (some M.mb), .slice A n c, .bool true] ∧
    OwnV w 0 A n c (vals.map vv) ∧ Of o A 8 ∧ o M.β = 2
structure BM (M : Bp) (fl : Int) (w : World) (o : Nat → Nat) (b : Bd) : Prop where
  head : HeadO M fl w o b.vals
  buf : Buf w o M.bb b.b
  stk : StkO w o M.sb b.s
  keys : PoolO w o 4 M.kb b.keys
  texts : PoolO w o 5 M.tb b.texts
  lists : PoolO w o 6 M.lb b.lists
  names : NamesO w o M.mb b.names
def Bld (i : Nat) : Prop := 1 ≤ i ∧ i ≤ 8
def BTo (M : Bp) (fl : Int) (b : Bd) (w : World) (o : Nat → Nat) (e : Ending) (w' : World) : Prop :=
  e = .returned (.tuple #[]) ∧ ∃ o', BM M fl w' o' b ∧ To Bld w o w' o'
section
variable {I : Nat → Prop} {w w' : World} {o o' : Nat → Nat} {M : Bp} {fl : Int} {b : Bd}
theorem StkO.to_ {p : Nat} {s : List Bv} (h : StkO w o p s) (ht : To I w o w' o') (hI : ¬ I 3) : StkO w' o' p s := by
  obtain ⟨g, hs, h1, h2⟩ := h
  have hg := hs.ge
  refine ⟨g, hs.fr ht.fr (by rw [h1]; exact hI) (fun k hk => by rw [h2 k hk]; exact hI), by rw [ht.ow _ hg.2.1]; exact h1, fun k hk => by rw [ht.ow _ (hg.2.2 k hk).2.1]; exact h2 k hk⟩
theorem PoolO.to_ {i p : Nat} {m : List (List UInt8 × Nat)} (h : PoolO w o i p m) (ht : To I w o w' o') (hI : ¬ I i) : PoolO w' o' i p m := by
  obtain ⟨A1, A2, n, c1, c2, ks, ns, hb, h1, h2, o1, o2, op, rest⟩ := h
  exact ⟨A1, A2, n, c1, c2, ks, ns, hb.to_ ht (by rw [op]; exact hI), h1.to_ o1 ht hI, h2.to_ o2 ht hI, o1.to_ h1 ht, o2.to_ h2 ht, by rw [ht.ow _ hb.lt]; exact op, rest⟩
theorem NamesO.to_ {p : Nat} {m : List (Nat × List UInt8)} (h : NamesO w o p m) (ht : To I w o w' o') (hI : ¬ I 7) : NamesO w' o' p m := by
  obtain ⟨op, n, D, hm, rest⟩ := h
  have hlt := hm.lt
  refine ⟨by rw [ht.ow _ hlt]; exact op, n, D, ?_, rest⟩
  obtain ⟨es, clock, hb, F⟩ := hm
  exact ⟨es, clock, (ht.keep hlt (by rw [op]; exact hI)).trans hb, F⟩
theorem HeadO.to_ {vals : List Bv} (h : HeadO M fl w o vals) (ht : To I w o w' o') (h2 : ¬ I 2) (h8 : ¬ I 8) : HeadO M fl w' o' vals := by
  obtain ⟨A, n, c, hb, ho, h1, op⟩ := h
  exact ⟨A, n, c, hb.to_ ht (by rw [op]; exact h2), ho.to_ h1 ht h8, h1.to_ ho ht, by rw [ht.ow _ hb.lt]; exact op⟩
theorem BM.to_ (h : BM M fl w o b) (ht : To I w o w' o') (hI : ∀ i, Bld i → ¬ I i) : BM M fl w' o' b :=
  ⟨h.head.to_ ht (hI _ ⟨by omega, by omega⟩) (hI _ ⟨by omega, by omega⟩), h.buf.to_ ht (hI _ ⟨by omega, by omega⟩), h.stk.to_ ht (hI _ ⟨by omega, by omega⟩), h.keys.to_ ht (hI _ ⟨by omega, by omega⟩),
    h.texts.to_ ht (hI _ ⟨by omega, by omega⟩), h.lists.to_ ht (hI _ ⟨by omega, by omega⟩), h.names.to_ ht (hI _ ⟨by omega, by omega⟩)⟩
theorem BM.pure (h : BM M fl w o b) (hb : Below w.heap.size w w') : BM M fl w' o b := h.to_ (To.pure (fun _ => False) hb o) (fun _ _ h => h)
theorem BM.fresh (h : BM M fl w o b) (hb : Below w.heap.size w w') (i : Nat) : BM M fl w' (newO o w.heap.size i) b := h.to_ (To.fresh (fun _ => False) hb o i) (fun _ _ h => h)
theorem BM.buf_ (h : BM M fl w o b) {l : List UInt8} (ht : To (fun i => i = 1) w o w' o') (hb : Buf w' o' M.bb l) : BM M fl w' o' { b with b := l } :=
  ⟨h.head.to_ ht (by omega) (by omega), hb, h.stk.to_ ht (by omega), h.keys.to_ ht (by omega), h.texts.to_ ht (by omega), h.lists.to_ ht (by omega), h.names.to_ ht (by omega)⟩
theorem BM.stk_ (h : BM M fl w o b) {s : List Bv} (ht : To (fun i => i = 3) w o w' o') (hb : StkO w' o' M.sb s) : BM M fl w' o' { b with s := s } :=
  ⟨h.head.to_ ht (by omega) (by omega), h.buf.to_ ht (by omega), hb, h.keys.to_ ht (by omega), h.texts.to_ ht (by omega), h.lists.to_ ht (by omega), h.names.to_ ht (by omega)⟩
theorem BM.keys_ (h : BM M fl w o b) {m : List (List UInt8 × Nat)} (ht : To (fun i => i = 4) w o w' o') (hb : PoolO w' o' 4 M.kb m) : BM M fl w' o' { b with keys := m } :=
  ⟨h.head.to_ ht (by omega) (by omega), h.buf.to_ ht (by omega), h.stk.to_ ht (by omega), hb, h.texts.to_ ht (by omega), h.lists.to_ ht (by omega), h.names.to_ ht (by omega)⟩
theorem BM.lists_ (h : BM M fl w o b) {m : List (List UInt8 × Nat)} (ht : To (fun i => i = 6) w o w' o') (hb : PoolO w' o' 6 M.lb m) : BM M fl w' o' { b with lists := m } :=
  ⟨h.head.to_ ht (by omega) (by omega), h.buf.to_ ht (by omega), h.stk.to_ ht (by omega), h.keys.to_ ht (by omega), h.texts.to_ ht (by omega), hb, h.names.to_ ht (by omega)⟩
theorem BM.names_ (h : BM M fl w o b) {m : List (Nat × List UInt8)} (ht : To (fun i => i = 7) w o w' o') (hb : NamesO w' o' M.mb m) : BM M fl w' o' { b with names := m } :=
  ⟨h.head.to_ ht (by omega) (by omega), h.buf.to_ ht (by omega), h.stk.to_ ht (by omega), h.keys.to_ ht (by omega), h.texts.to_ ht (by omega), h.lists.to_ ht (by omega), hb⟩
theorem BM.head_ (h : BM M fl w o b) {vals : List Bv} (ht : To (fun i => i = 2 ∨ i = 8) w o w' o') (hb : HeadO M fl w' o' vals) : BM M fl w' o' { b with vals := vals } :=
  ⟨hb, h.buf.to_ ht (by omega), h.stk.to_ ht (by omega), h.keys.to_ ht (by omega), h.texts.to_ ht (by omega), h.lists.to_ ht (by omega), h.names.to_ ht (by omega)⟩
theorem BTo.from_pure {w0 : World} {e : Ending} (hb : Below w0.heap.size w0 w) (h : BTo M fl b w o e w') : BTo M fl b w0 o e w' := by
  obtain ⟨h1, o', h2, h3⟩ := h
  exact ⟨h1, o', h2, h3.from_pure hb⟩
theorem BTo.from_fresh {w0 : World} {i : Nat} {e : Ending} (hb : Below w0.heap.size w0 w) (h : BTo M fl b w (newO o w0.heap.size i) e w') : BTo M fl b w0 o e w' := by
  obtain ⟨h1, o', h2, h3⟩ := h
  exact ⟨h1, o', h2, (To.fresh _ hb o i).trans h3⟩
theorem bld_1 {i : Nat} (h : i = 1) : Bld i := by subst h; exact ⟨by omega, by omega⟩
theorem bld_3 {i : Nat} (h : i = 3) : Bld i := by subst h; exact ⟨by omega, by omega⟩
theorem HeadO.cells {vals : List Bv} (h : HeadO M fl w o vals) : w.cell? ⟨M.β, 0, none⟩ = some (.pointer (some ⟨M.bb, 0, none⟩)) ∧ w.cell? ⟨M.β, 1, none⟩ = some (.pointer (some ⟨M.sb, 0, none⟩)) ∧ w.cell? ⟨M.β, 2, none⟩ = some (.int .i64 0) ∧ w.cell? ⟨M.β, 9, none⟩ = some (.bool true) ∧
    w.frozen? ⟨M.β, 2, none⟩ = false := by
  obtain ⟨A, n, c, hb, _⟩ := h
  exact ⟨hb.cell 0, hb.cell 1, hb.cell 2, hb.cell 9, hb.frozen 2⟩
end
/-! the stack, in these words -/
theorem spush_is (b : Nat) (s l : List Bv) (A2 : Option Addr) (n2 c2 : Nat) (w : World) (o : Nat → Nat) (h : StkO w o b s) (hm : IsV w A2 n2 (l.map vv)) (hl : s.length + l.length ≤ 65536) :
    Calls Tryz.prog 222 #[.pointer (some ⟨b, 0, none⟩), .slice A2 n2 c2] w fun e w' => e = .returned (.int .i64 0) ∧ ∃ o', StkO w' o' b (s ++ l) ∧ To (fun i => i = 3) w o w' o' := by
  obtain ⟨g, hs, h1, h2⟩ := h
  have hge := hs.ge
  refine (push_spec 0 b g (s.map vv) (l.map vv) A2 n2 c2 w hs hm (by simpa using hl) (Nat.zero_le _)).mono ?_
  rintro e w' ⟨rfl, g', hs', hg', hf⟩
  refine ⟨rfl, newO o w.heap.size 3, ⟨g', by rw [List.map_append]; exact hs', by rw [newO_old hge.2.1]; exact h1, ?_⟩, To.of_fr hf ?_ 3⟩
  · intro k hk
    rcases hg' with e | e
    · rw [e] at hk
      rw [newO_old (hge.2.2 k hk).2.1]
      exact h2 k hk
    · rw [e] at hk
      injection hk with hk
      rw [← hk, newO_new (Nat.le_refl _)]
  · rintro k hk (rfl | e)
    · exact h1
    · exact h2 k e.symm
theorem slen_is (b n : Nat) (s : List Bv) (w : World) (o : Nat → Nat) (h : StkO w o b s) (hn : s.length = n) :
    Calls Tryz.prog 221 #[.pointer (some ⟨b, 0, none⟩)] w fun e w' => e = .returned (.int .i64 n) ∧ w = w' := by
  obtain ⟨g, hs, h1, h2⟩ := h
  have := len_spec 0 b g (s.map vv) w hs
  rw [List.length_map, hn] at this
  exact this
theorem sfrom_is (b k : Nat) (s : List Bv) (w : World) (o : Nat → Nat) (h : StkO w o b s) (hk : k ≤ s.length) :
    Calls Tryz.prog 126 #[.pointer (some ⟨b, 0, none⟩), .int .i64 (k : Int)] w fun e w' => ∃ A n c, e = .returned (.tuple #[.slice A n c, .int .i64 0]) ∧ OwnV w' w.heap.size A n c ((s.drop k).map vv) ∧ Below w.heap.size w w' := by
  obtain ⟨g, hs, h1, h2⟩ := h
  obtain ⟨e1, _, e3⟩ := from_yes (s.map vv) k (by simpa using hk)
  have := from_spec 0 b g (s.map vv) k w hs
  rw [e1, e3, ← List.map_drop] at this
  exact this
theorem spop_is (b k : Nat) (s : List Bv) (w : World) (o : Nat → Nat) (h : StkO w o b s) (hk : k ≤ s.length) (hk2 : k ≤ 65536) :
    Calls Tryz.prog 171 #[.pointer (some ⟨b, 0, none⟩), .int .i64 (k : Int)] w fun e w' => (∃ A n c, e = .returned (.tuple #[.slice A n c, .int .i64 0])) ∧ ∃ o', StkO w' o' b (s.take (s.length - k)) ∧ To (fun i => i = 3) w o w' o' := by
  obtain ⟨g, hs, h1, h2⟩ := h
  have hge := hs.ge
  obtain ⟨e1, e2, e3⟩ := pop_yes (s.map vv) k (by simpa using hk)
  refine (pop_spec 0 b g (s.map vv) k w hs (by omega) (by omega)).mono ?_
  rintro e w' ⟨A, n, c, rfl, _, hs', hf⟩
  rw [e3]
  rw [e2, ← List.map_take, List.length_map] at hs'
  refine ⟨⟨A, n, c, rfl⟩, newO o w.heap.size 3, ⟨g, hs', by rw [newO_old hge.2.1]; exact h1, fun k' hk' => by rw [newO_old (hge.2.2 k' hk').2.1]; exact h2 k' hk'⟩, To.of_fr hf ?_ 3⟩
  rintro k' _ rfl
  exact h1
end Go.Proofs.YtfoifdoaleaekaaGreat

namespace Go.Proofs.YtfoifdoaleaekaaGreat
open Go.RowKit Go.Acc
theorem cnone_spec (b : Nat) (w : World) (h : w.cell? ⟨b, 9, none⟩ = some (.bool true)) :
    Calls Tryz.prog 125 #[.pointer (some ⟨b, 0, none⟩)] w fun e w' => e = .returned (.bool false) ∧ w = w' := by
  go_enter Tryz.func125, Tryz.ntmps125
  go_wp2
  go_ret
  exact ⟨rfl, rfl⟩
theorem cerr_is {M : Bp} {fl : Int} {w : World} {o : Nat → Nat} {vals : List Bv} (h : HeadO M fl w o vals) : Calls Tryz.prog 216 #[.pointer (some ⟨M.β, 0, none⟩)] w fun e w' => e = .returned (.int .i64 0) ∧ w = w' := by
  obtain ⟨c0, c1, c2, c9, _⟩ := h.cells
  clear h
  go_enter Tryz.func216, Tryz.ntmps216
  go_wp2_with (go_at_call 125; refine (cnone_spec M.β _ (by assumption)).mono ?_; rintro e w' ⟨rfl, rfl⟩)
  go_ret
  exact ⟨rfl, rfl⟩
theorem HeadO.same {M : Bp} {fl : Int} {w : World} {o : Nat → Nat} {vals : List Bv} (h : HeadO M fl w o vals) : HeadO M fl (w.setCell ⟨M.β, 2, none⟩ (.int .i64 0)) o vals ∧ To (fun i => i = 2 ∨ i = 8) w o (w.setCell ⟨M.β, 2, none⟩ (.int .i64 0)) o := by
  obtain ⟨A, n, c, hb, ho, h1, op⟩ := h
  have hT : To (fun i => i = 2 ∨ i = 8) w o (w.setCell ⟨M.β, 2, none⟩ (.int .i64 0)) o := To.of_fr0 (Fr.setCell (S := fun k => k = M.β) (Fr.refl _ w) (fun _ => rfl) _) (by rintro k _ rfl; exact .inl op)
  refine ⟨⟨A, n, c, by have := hb.set_ 2 (.int .i64 0); simpa using this, ho.fr (Fr.setCell (S := fun k => k = M.β) (Fr.refl _ w) (fun _ => rfl) _) ?_, h1, op⟩, hT⟩
  rintro ad rfl hk
  exact own_blk_ne ho.2 hb (by decide) (by simp [Value.ownBlock, hk])
theorem fail_ok {M : Bp} {fl : Int} {w : World} {o : Nat → Nat} {b : Bd} (h : BM M fl w o b) : Calls Tryz.prog 127 #[.pointer (some ⟨M.β, 0, none⟩), .int .i64 0] w (BTo M fl b w o) := by
  have H := Lib.hid h
  obtain ⟨c0, c1, c2, c9, f2⟩ := h.head.cells
  clear h
  go_enter Tryz.func127, Tryz.ntmps127
  go_wp2
  go_end0
  obtain ⟨h1, h2⟩ := H.out.head.same
  refine ⟨rfl, o, H.out.head_ h2 h1, h2.mono ?_⟩
  rintro i (rfl | rfl) <;> exact ⟨by omega, by omega⟩
theorem isv_one (W : World) (v : V3) : IsV (W.alloc (.cells #[.int .i64 v.1, .int .i64 v.2.1, .int .u64 v.2.2] 185)) (some ⟨W.heap.size, 0, none⟩) 1 [v] := by
  refine ⟨rfl, fun j u hu => ⟨_, _, rfl, ?_⟩⟩
  rw [Nat.zero_add, (Blk.new W _ _).cell j]
  simpa [vc] using hu
theorem HeadO.own {M : Bp} {fl : Int} {w : World} {o : Nat → Nat} {vals : List Bv} (h : HeadO M fl w o vals) : o M.β = 2 := by obtain ⟨A, n, c, _, _, _, h⟩ := h; exact h
theorem bld_0 : ¬ Bld 0 := by rintro ⟨h, _⟩; omega
set_option maxRecDepth 100000 in
set_option maxHeartbeats 1500000 in
theorem pushp_spec (M : Bp) (fl : Int) (b : Bd) (v : Bv) (w : World) (o : Nat → Nat) (h : BM M fl w o b) (hs : b.s.length < 65536) :
    Calls Tryz.prog 173 #[.pointer (some ⟨M.β, 0, none⟩), .agg #[.int .i64 (v.t : Int), .int .i64 (v.w : Int), .int .u64 (v.n : Int)]] w (BTo M fl (b.push v) w o) := by
  have HS := Lib.hid hs
  have hB1 : Below w.heap.size w (w.alloc (.cells #[.int .i64 (v.t : Int), .int .i64 (v.w : Int), .int .u64 (v.n : Int)] 185)) := (Below.refl _ _).alloc (Nat.le_refl _) _
  have HB1 := Lib.hid hB1
  have HM1 := Lib.hid (h.fresh hB1 0)
  have HX1 := Lib.hid (Blk.new w 185 #[.int .i64 (v.t : Int), .int .i64 (v.w : Int), .int .u64 (v.n : Int)])
  have HO1 := Lib.hid (show newO o w.heap.size 0 w.heap.size = 0 from newO_new (Nat.le_refl _))
  obtain ⟨β, hβ⟩ : ∃ x, M.β = x := ⟨_, rfl⟩
  obtain ⟨bb, hbb⟩ : ∃ x, M.bb = x := ⟨_, rfl⟩
  obtain ⟨sb, hsb⟩ : ∃ x, M.sb = x := ⟨_, rfl⟩
  obtain ⟨a0, a1, a2, a9, f2⟩ := HM1.out.head.cells
  rw [hβ] at a0 a1 a2 f2
  rw [hbb] at a0
  rw [hβ]
  have Hβ := Lib.hid hβ
  have Hbb := Lib.hid hbb
  have Hsb := Lib.hid hsb
  clear h hs a1 a2 a9 f2 hβ hbb hsb hB1
  go_enter Tryz.func173, Tryz.ntmps173
  go_wp2_with fail
  go_at_call 201
  rw [← Hbb.out]
  refine (berr_is HM1.out.buf).mono ?_
  rintro e w' ⟨rfl, rfl⟩
  go_wp2_with fail
  go_at_call 127
  rw [← Hβ.out]
  refine (fail_ok HM1.out).mono ?_
  rintro e W2 ⟨rfl, o2, hM2, hT2⟩
  have hX2 := HX1.out.to_ hT2 (by rw [HO1.out]; exact bld_0)
  have HO2 := Lib.hid (show o2 w.heap.size = 0 by rw [hT2.ow _ HX1.out.lt]; exact HO1.out)
  obtain ⟨b0, b1, b2, b9, f2⟩ := hM2.head.cells
  rw [Hβ.out] at b1 b2
  rw [Hsb.out] at b1
  rw [Hβ.out]
  have x0 : W2.cell? ⟨w.heap.size, 0, none⟩ = some (.int .i64 (v.t : Int)) := hX2.cell 0
  have x1 : W2.cell? ⟨w.heap.size, 1, none⟩ = some (.int .i64 (v.w : Int)) := hX2.cell 1
  have x2 : W2.cell? ⟨w.heap.size, 2, none⟩ = some (.int .u64 (v.n : Int)) := hX2.cell 2
  have HM2 := Lib.hid hM2
  have HT2 := Lib.hid hT2
  have HX2 := Lib.hid hX2
  clear hX2 b0 b9 f2 hM2 hT2 a0
  go_wp2_with fail
  have HL := Lib.hid (show b.s.length + [v].length ≤ 65536 from HS.out)
  have hB3 : Below W2.heap.size W2 (W2.alloc (.cells #[.int .i64 (v.t : Int), .int .i64 (v.w : Int), .int .u64 (v.n : Int)] 185)).drew := ((Below.refl _ _).alloc (Nat.le_refl _) _).drew
  have HB3 := Lib.hid hB3
  have HM3 := Lib.hid (HM2.out.pure hB3)
  have HI := Lib.hid (show IsV (W2.alloc (.cells #[.int .i64 (v.t : Int), .int .i64 (v.w : Int), .int .u64 (v.n : Int)] 185)).drew (some ⟨W2.heap.size, 0, none⟩) 1 ([v].map vv) from isv_one W2 (vv v))
  have hlt := Nat.ne_of_lt (lt_of_cell b1)
  simp only at hlt
  have hltx := Nat.ne_of_lt (lt_of_cell x0)
  simp only at hltx
  clear hB3
  rw [← Hsb.out] at b1
  go_region_held3 (fun w' => w'.cell? ⟨β, 1, none⟩ = some (.pointer (some ⟨M.sb, 0, none⟩)) ∧ w'.cell? ⟨w.heap.size, 0, none⟩ = some (.int .i64 (v.t : Int)) ∧ w'.cell? ⟨w.heap.size, 1, none⟩ = some (.int .i64 (v.w : Int)) ∧ w'.cell? ⟨w.heap.size, 2, none⟩ = some (.int .u64 (v.n : Int))) (first | with_reducible exact ⟨b1, x0, x1, x2⟩ | with_reducible exact ⟨kdrew b1, kdrew x0, kdrew x1, kdrew x2⟩ | with_reducible exact ⟨kdrew (kalloc _ b1), kdrew (kalloc _ x0), kdrew (kalloc _ x1), kdrew (kalloc _ x2)⟩ | with_reducible exact ⟨y1, y2, y3, y4⟩ | with_reducible exact ⟨z1, z2, z3, z4⟩) (first | (go_at_call 222; (with_reducible refine (spush_is M.sb b.s [v] _ _ _ _ o2 HM3.out.stk HI.out HL.out).mono ?_); rintro e W4 ⟨rfl, o4, hS4, hT4⟩; have hM4 := HM3.out.stk_ hT4 hS4; have y1 := hT4.cell (kdrew (kalloc _ b1)) (by rw [show o2 β = 2 by rw [← Hβ.out]; exact HM2.out.head.own]; omega); have y2 := hT4.cell (kdrew (kalloc _ x0)) (by rw [HO2.out]; omega); have y3 := hT4.cell (kdrew (kalloc _ x1)) (by rw [HO2.out]; omega); have y4 := hT4.cell (kdrew (kalloc _ x2)) (by rw [HO2.out]; omega); have HM4 := Lib.hid hM4; have HT4 := Lib.hid hT4; have HO4 := Lib.hid (show o4 w.heap.size = 0 by rw [hT4.ow _ (Nat.lt_of_lt_of_le (lt_of_cell x0) HB3.out.size)]; exact HO2.out); clear hS4 hT4 hM4) | (go_at_call 127; rw [← Hβ.out]; (with_reducible refine (fail_ok HM4.out).mono ?_); rintro e W5 ⟨rfl, o5, hM5, hT5⟩; have z1 := hM5.head.cells.2.1; rw [Hβ.out] at z1; have z2 := hT5.cell y2 (by rw [HO4.out]; exact bld_0); have z3 := hT5.cell y3 (by rw [HO4.out]; exact bld_0); have z4 := hT5.cell y4 (by rw [HO4.out]; exact bld_0); have HM5 := Lib.hid hM5; have HT5 := Lib.hid hT5; clear hM5 hT5))
  go_end0
  refine ⟨rfl, o5, HM5.out, ?_⟩
  exact (To.fresh _ HB1.out o 0).trans (HT2.out.trans (To.from_pure HB3.out ((HT4.out.mono fun _ h => bld_3 h).trans HT5.out)))
end Go.Proofs.YtfoifdoaleaekaaGreat

namespace Go.Proofs.YtfoifdoaleaekaaGreat
open Go.Shelf Go.RowKit Go.Acc
def len64_ren : Go.Shelf.Ren := ⟨fun | 129 => 154 | n => n, fun | 3 => 3 | 4 => 4 | 5 => 5 | 9 => 9 | 46 => 146 | 53 => 22 | n => n, fun | n => n⟩
theorem len64_lay : Go.Proofs.Lays.n129 Tryz.prog len64_ren := {
  mixed := by kernel_rfl
  f129 := Tryz.func154.trans (congrArg some (by kernel_rfl))
  t3 := Tryz.underlying3
  a3 := Tryz.isAgg3
  z3 := Tryz.sizeOf3
  v3 := Tryz.zeroValue3
  t4 := Tryz.underlying4
  a4 := Tryz.isAgg4
  z4 := Tryz.sizeOf4
  v4 := Tryz.zeroValue4
  t5 := Tryz.underlying5
  a5 := Tryz.isAgg5
  z5 := Tryz.sizeOf5
  v5 := Tryz.zeroValue5
  t9 := Tryz.underlying9
  a9 := Tryz.isAgg9
  z9 := Tryz.sizeOf9
  v9 := Tryz.zeroValue9
  t46 := Tryz.underlying146
  a46 := Tryz.isAgg146
  z46 := Tryz.sizeOf146
  v46 := Tryz.zeroValue146
  t53 := Tryz.underlying22
  a53 := Tryz.isAgg22
  z53 := Tryz.sizeOf22
  v53 := Tryz.zeroValue22 }
theorem len64_spec (u : Nat) (w : World) (h : u < 18446744073709551616) : Calls Tryz.prog 154 #[.int .u64 u] w fun e w' => e = .returned (.int .i64 (Lib.bitLen u)) ∧ w = w' := by
  have h := Any.bits_Len64 len64_lay (u : Int) w (by omega) (by omega)
  change Calls Tryz.prog 154 _ _ _ at h
  exact h.mono fun _ _ ⟨he, hw⟩ => ⟨by rw [he, Int.toNat_natCast], hw.symm⟩
def wdN (m : Int) : Int := if m ≤ 8 then 1 else if m ≤ 16 then 2 else if m ≤ 32 then 4 else 8
set_option maxHeartbeats 400000 in
theorem least_is (m r : Int) (w : World) (h : wdN m = r) : Calls Tryz.prog 245 #[.int .i64 m] w fun e w' => e = .returned (.int .i64 r) ∧ w = w' := by
  unfold wdN at h
  by_cases h1 : m ≤ 8
  · rw [if_pos h1] at h
    subst h
    go_enter Tryz.func245, Tryz.ntmps245
    go_wp2
    refine wp_loop_rounds 5 ?_
    repeat (rw [rounds_succ]; go_wp2)
    all_goals
      go_ret
      exact ⟨rfl, rfl⟩
  · rw [if_neg h1] at h
    by_cases h2 : m ≤ 16
    · rw [if_pos h2] at h
      subst h
      go_enter Tryz.func245, Tryz.ntmps245
      go_wp2
      refine wp_loop_rounds 5 ?_
      repeat (rw [rounds_succ]; go_wp2)
      all_goals
        go_ret
        exact ⟨rfl, rfl⟩
    · rw [if_neg h2] at h
      by_cases h3 : m ≤ 32
      · rw [if_pos h3] at h
        subst h
        go_enter Tryz.func245, Tryz.ntmps245
        go_wp2
        refine wp_loop_rounds 5 ?_
        repeat (rw [rounds_succ]; go_wp2)
        all_goals
          go_ret
          exact ⟨rfl, rfl⟩
      · rw [if_neg h3] at h
        subst h
        by_cases h4 : m ≤ 64
        · go_enter Tryz.func245, Tryz.ntmps245
          go_wp2
          refine wp_loop_rounds 5 ?_
          repeat (rw [rounds_succ]; go_wp2)
          all_goals
            go_ret
            exact ⟨rfl, rfl⟩
        · go_enter Tryz.func245, Tryz.ntmps245
          go_wp2
          refine wp_loop_rounds 5 ?_
          repeat (rw [rounds_succ]; go_wp2)
          all_goals
            go_ret
            exact ⟨rfl, rfl⟩
def wdU (u : Nat) : Int := if u < 256 then 1 else if u < 65536 then 2 else if u < 4294967296 then 4 else 8
def wdI (n : Int) : Int := if -128 ≤ n ∧ n < 128 then 1 else if -32768 ≤ n ∧ n < 32768 then 2 else if -2147483648 ≤ n ∧ n < 2147483648 then 4 else 8
theorem bl_iff (u k : Nat) (hk : k ≤ 63) (hu : u < 18446744073709551616) : Lib.bitLen u ≤ k ↔ u < 2 ^ k := by
  constructor
  · intro h
    refine Decidable.byContradiction fun hn => ?_
    have h1 := Lib.bitLen_shift k u (by omega) hu
    have hp : 0 < 2 ^ k := Nat.two_pow_pos k
    have h2 : u / 2 ^ k ≠ 0 := by
      intro e
      have := (Nat.div_eq_zero_iff).1 e
      omega
    have h3 := Lib.bitLen_half (u / 2 ^ k) h2 (Nat.lt_of_le_of_lt (Nat.div_le_self _ _) hu)
    omega
  · intro h
    exact Lib.bitLen_le u k (by omega) h
theorem wdU_bits (u : Nat) (hu : u < 18446744073709551616) : wdN (Lib.bitLen u) = wdU u := by
  have h1 := bl_iff u 8 (by omega) hu
  have h2 := bl_iff u 16 (by omega) hu
  have h3 := bl_iff u 32 (by omega) hu
  simp only [Nat.reducePow] at h1 h2 h3
  unfold wdN wdU
  by_cases c1 : u < 256
  · rw [if_pos c1, if_pos (by have := h1.2 c1; omega)]
  · rw [if_neg c1, if_neg (by have := mt h1.1 c1; omega)]
    by_cases c2 : u < 65536
    · rw [if_pos c2, if_pos (by have := h2.2 c2; omega)]
    · rw [if_neg c2, if_neg (by have := mt h2.1 c2; omega)]
      by_cases c3 : u < 4294967296
      · rw [if_pos c3, if_pos (by have := h3.2 c3; omega)]
      · rw [if_neg c3, if_neg (by have := mt h3.1 c3; omega)]
set_option maxHeartbeats 400000 in
theorem wof_is (u : Nat) (r : Int) (w : World) (hu : u < 18446744073709551616) (h : wdU u = r) : Calls Tryz.prog 215 #[.int .u64 u] w fun e w' => e = .returned (.int .i64 r) ∧ w = w' := by
  obtain ⟨k, hk⟩ : ∃ k, Lib.bitLen u = k := ⟨_, rfl⟩
  have hw := wdU_bits u hu
  rw [hk, h] at hw
  have hl := len64_spec u w hu
  rw [hk] at hl
  have HW := Lib.hid hw
  have HL := Lib.hid hl
  clear hk hw hl h hu
  go_enter Tryz.func215, Tryz.ntmps215
  go_wp2_with fail
  go_at_call 154
  refine HL.out.mono ?_
  rintro e w' ⟨rfl, rfl⟩
  go_wp2_with fail
  go_at_call 245
  refine (least_is k r _ HW.out).mono ?_
  rintro e w' ⟨rfl, rfl⟩
  go_wp2
  go_ret
  exact ⟨rfl, rfl⟩
end Go.Proofs.YtfoifdoaleaekaaGreat

namespace Go.Proofs.YtfoifdoaleaekaaGreat
open Go.Shelf Go.RowKit Go.Acc
theorem wdI_pos (u : Nat) (hu : u < 9223372036854775808) : wdN (1 + Lib.bitLen u) = wdI (u : Int) ∧ wdI (-(u : Int) - 1) = wdI (u : Int) := by
  have h1 := bl_iff u 7 (by omega) (by omega)
  have h2 := bl_iff u 15 (by omega) (by omega)
  have h3 := bl_iff u 31 (by omega) (by omega)
  simp only [Nat.reducePow] at h1 h2 h3
  constructor
  · unfold wdN wdI
    by_cases c1 : u < 128
    · rw [if_pos (show (-128 : Int) ≤ u ∧ (u : Int) < 128 by omega), if_pos (by have := h1.2 c1; omega)]
    · rw [if_neg (show ¬ ((-128 : Int) ≤ u ∧ (u : Int) < 128) by omega), if_neg (by have := mt h1.1 c1; omega)]
      by_cases c2 : u < 32768
      · rw [if_pos (show (-32768 : Int) ≤ u ∧ (u : Int) < 32768 by omega), if_pos (by have := h2.2 c2; omega)]
      · rw [if_neg (show ¬ ((-32768 : Int) ≤ u ∧ (u : Int) < 32768) by omega), if_neg (by have := mt h2.1 c2; omega)]
        by_cases c3 : u < 2147483648
        · rw [if_pos (show (-2147483648 : Int) ≤ u ∧ (u : Int) < 2147483648 by omega), if_pos (by have := h3.2 c3; omega)]
        · rw [if_neg (show ¬ ((-2147483648 : Int) ≤ u ∧ (u : Int) < 2147483648) by omega), if_neg (by have := mt h3.1 c3; omega)]
  · unfold wdI
    (repeat' split) <;> omega
theorem xor_zero (a : Nat) (ha : a < 9223372036854775808) : Go.bits .xor .i64 (a : Int) 0 = a := by
  show IntKind.i64.wrap ((BitVec.ofInt 64 (a : Int) ^^^ BitVec.ofInt 64 0).toNat : Int) = _
  have h1 : BitVec.ofInt 64 0 = 0#64 := by decide
  rw [h1, BitVec.xor_zero, ofInt_u64 a (by omega)]
  simp [IntKind.wrap, IntKind.bits, IntKind.signed]
  omega
theorem xor_ones (a : Nat) (ha : a < 9223372036854775808) : Go.bits .xor .i64 (-(a : Int) - 1) (-1) = a := by
  show IntKind.i64.wrap ((BitVec.ofInt 64 (-(a : Int) - 1) ^^^ BitVec.ofInt 64 (-1)).toNat : Int) = _
  have h1 : BitVec.ofInt 64 (-1) = BitVec.allOnes 64 := by decide
  have h2 : (BitVec.ofInt 64 (-(a : Int) - 1)).toNat = 18446744073709551615 - a := by
    rw [BitVec.toNat_ofInt]
    omega
  rw [h1, BitVec.xor_allOnes, BitVec.toNat_not, h2]
  simp [IntKind.wrap, IntKind.bits, IntKind.signed]
  omega
set_option maxHeartbeats 400000 in
theorem wofi_is (n r : Int) (w : World) (h0 : -9223372036854775808 ≤ n ∧ n ≤ 9223372036854775807) (h : wdI n = r) : Calls Tryz.prog 214 #[.int .i64 n] w fun e w' => e = .returned (.int .i64 r) ∧ w = w' := by
  obtain ⟨u, hu, hn, hx⟩ : ∃ u : Nat, u < 9223372036854775808 ∧ wdI (u : Int) = r ∧ Go.bits .xor .i64 n (n / 9223372036854775808) = u := by
    by_cases hn : 0 ≤ n
    · obtain ⟨u, rfl⟩ := Int.eq_ofNat_of_zero_le hn
      refine ⟨u, by omega, h, ?_⟩
      rw [show (u : Int) / 9223372036854775808 = 0 by omega]
      exact xor_zero u (by omega)
    · obtain ⟨u, rfl⟩ : ∃ u : Nat, n = -(u : Int) - 1 := ⟨(-n - 1).toNat, by omega⟩
      refine ⟨u, by omega, by rw [← (wdI_pos u (by omega)).2]; exact h, ?_⟩
      rw [show (-(u : Int) - 1) / 9223372036854775808 = -1 by omega]
      exact xor_ones u (by omega)
  obtain ⟨k, hk⟩ : ∃ k, Lib.bitLen u = k := ⟨_, rfl⟩
  have hw := (wdI_pos u hu).1
  rw [hk, hn] at hw
  have hl := len64_spec u w (by omega)
  rw [hk] at hl
  have hk2 : k ≤ 64 := by rw [← hk]; exact Lib.bitLen_le u 64 (by omega) (by omega)
  have hwr : IntKind.u64.wrap (u : Int) = u := by rw [IntKind.wrap_u64]; omega
  have HW := Lib.hid hw
  have HL := Lib.hid hl
  have HX := Lib.hid hx
  clear hk hw hl h hn hx
  go_enter Tryz.func214, Tryz.ntmps214
  go_wp2_with fail
  go_at_call 154
  rw [HX.out, hwr]
  refine HL.out.mono ?_
  rintro e w' ⟨rfl, rfl⟩
  go_wp2_with fail
  go_at_call 245
  refine (least_is (1 + (k : Int)) r _ HW.out).mono ?_
  rintro e w' ⟨rfl, rfl⟩
  go_wp2
  go_ret
  exact ⟨rfl, rfl⟩
end Go.Proofs.YtfoifdoaleaekaaGreat

namespace Go.Proofs.YtfoifdoaleaekaaGreat
open Go.RowKit Go.Acc
theorem unless_spec (M : Bp) (fl : Int) (F : Nat) (caps : Array Value) (w : World) (o : Nat → Nat) (vals : List Bv) (R : Ending → World → Prop) (h : HeadO M fl w o vals)
    (hF : ∀ (args : Array Value) (w : World), (callFunc F args).run Tryz.prog w = .ok (.enter F args) w)
    (hc : Calls Tryz.prog F caps w fun e w' => e = .returned (.tuple #[]) ∧ R e w') :
    Calls Tryz.prog 163 #[.pointer (some ⟨M.β, 0, none⟩), .func (.func F) #[] caps] w R := by
  have H := Lib.hid h
  have HC := Lib.hid hc
  clear h hc
  go_enter Tryz.func163, Tryz.ntmps163
  go_wp2_with (go_at_call 216; refine (cerr_is H.out).mono ?_; rintro e w' ⟨rfl, rfl⟩)
  refine HC.out.mono ?_
  rintro e w' ⟨rfl, hR⟩
  have HR := Lib.hid hR
  clear hR hF
  go_wp2
  go_end0
  exact HR.out
theorem wdU_b (u : Nat) : wdU u = (bWidth u : Nat) := by unfold wdU bWidth; (repeat' split) <;> rfl
theorem wdI_b (n : Int) : wdI n = (bWidthI n : Nat) := by unfold wdI bWidthI; (repeat' split) <;> rfl
theorem bits_u64 (n : Int) : IntKind.u64.wrap n = (bits n : Nat) := wrapu n
theorem num_spec (n : Int) (w : World) (h : -9223372036854775808 ≤ n ∧ n ≤ 9223372036854775807) :
    Calls Tryz.prog 158 #[.int .i64 n] w fun e w' => e = .returned (.agg #[.int .i64 ((numV n).t : Int), .int .i64 ((numV n).w : Int), .int .u64 ((numV n).n : Int)]) ∧ Below w.heap.size w w' := by
  have HB := Lib.hid (bits_u64 n)
  have HW := Lib.hid (wdI_b n)
  have H := Lib.hid h
  clear h
  go_enter Tryz.func158, Tryz.ntmps158
  go_wp2_with fail
  go_at_call 214
  refine (wofi_is n _ _ H.out HW.out).mono ?_
  rintro e w' ⟨rfl, rfl⟩
  go_wp2_with fail
  refine bodyPost_ret (v := .agg #[.int .i64 ((numV n).t : Int), .int .i64 ((numV n).w : Int), .int .u64 ((numV n).n : Int)]) (by simp [results, Tryz.results158, go_sem, HB.out, numV]) rfl ⟨rfl, ?_⟩
  exact (Below.refl _ _).alloc (Nat.le_refl _) _
theorem uns_spec (u : Nat) (w : World) (h : u < 18446744073709551616) :
    Calls Tryz.prog 160 #[.int .u64 (u : Int)] w fun e w' => e = .returned (.agg #[.int .i64 ((unsV u).t : Int), .int .i64 ((unsV u).w : Int), .int .u64 ((unsV u).n : Int)]) ∧ Below w.heap.size w w' := by
  have HW := Lib.hid (wdU_b u)
  have H := Lib.hid h
  clear h
  go_enter Tryz.func160, Tryz.ntmps160
  go_wp2_with fail
  go_at_call 215
  refine (wof_is u _ _ H.out HW.out).mono ?_
  rintro e w' ⟨rfl, rfl⟩
  go_wp2_with fail
  refine bodyPost_ret (v := .agg #[.int .i64 ((unsV u).t : Int), .int .i64 ((unsV u).w : Int), .int .u64 ((unsV u).n : Int)]) (by simp [results, Tryz.results160, go_sem, unsV]) rfl ⟨rfl, ?_⟩
  exact (Below.refl _ _).alloc (Nat.le_refl _) _
theorem truth_spec (n : Int) (t : Bool) (w : World) (h : decide (n = 1) = t) :
    Calls Tryz.prog 162 #[.bool t] w fun e w' => e = .returned (.agg #[.int .i64 ((truthV n).t : Int), .int .i64 ((truthV n).w : Int), .int .u64 ((truthV n).n : Int)]) ∧ Below w.heap.size w w' := by
  cases t with
  | true =>
    have e : truthV n = ⟨26, 1, 1⟩ := by unfold truthV; rw [if_pos (of_decide_eq_true h)]
    rw [e]
    clear h e
    go_enter Tryz.func162, Tryz.ntmps162
    go_wp2_with fail
    refine bodyPost_ret (v := .agg #[.int .i64 26, .int .i64 1, .int .u64 1]) (by simp [results, Tryz.results162, go_sem]) rfl ⟨rfl, ?_⟩
    exact ((Below.refl _ _).alloc (Nat.le_refl _) _).alloc (by simp) _
  | false =>
    have e : truthV n = ⟨26, 1, 0⟩ := by unfold truthV; rw [if_neg (of_decide_eq_false h)]
    rw [e]
    clear h e
    go_enter Tryz.func162, Tryz.ntmps162
    go_wp2_with fail
    refine bodyPost_ret (v := .agg #[.int .i64 26, .int .i64 1, .int .u64 0]) (by simp [results, Tryz.results162, go_sem]) rfl ⟨rfl, ?_⟩
    exact ((Below.refl _ _).alloc (Nat.le_refl _) _).alloc (by simp) _
theorem low_cut (n k : Nat) (hk : k ≤ 64) : IntKind.u64.wrap ((n : Int) * 2 ^ (64 - k)) / 2 ^ (64 - k) = (n % 2 ^ k : Nat) := by
  have e : ((n : Int) * 2 ^ (64 - k)) = ((n * 2 ^ (64 - k) : Nat) : Int) := by simp
  rw [e, wrapu]
  have h2 : (2 : Nat) ^ 64 = 2 ^ k * 2 ^ (64 - k) := by rw [← Nat.pow_add]; congr 1; omega
  have h3 : (((n * 2 ^ (64 - k) : Nat) : Int) % 18446744073709551616).toNat = (n % 2 ^ k) * 2 ^ (64 - k) := by
    have : (((n * 2 ^ (64 - k) : Nat) : Int) % 18446744073709551616).toNat = (n * 2 ^ (64 - k)) % 2 ^ 64 := by
      show _ = (n * 2 ^ (64 - k)) % 18446744073709551616
      omega
    rw [this, h2, Nat.mul_mod_mul_right]
  rw [h3]
  have hp : 0 < 2 ^ (64 - k) := Nat.two_pow_pos _
  rw [show ((2 : Int) ^ (64 - k)) = ((2 ^ (64 - k) : Nat) : Int) by simp, ← Int.natCast_ediv, Nat.mul_div_cancel _ hp]
set_option maxHeartbeats 400000 in
theorem low_spec (n y : Nat) (w : World) (hy : isW (y : Int) = true) :
    Calls Tryz.prog 131 #[.int .u64 (n : Int), .int .i64 (y : Int)] w fun e w' => e = .returned (.int .u64 ((n % 2 ^ (8 * y) : Nat) : Int)) ∧ w = w' := by
  rcases w_cases hy with rfl | rfl | rfl | rfl
  · have HL := Lib.hid (show IntKind.u64.wrap ((n : Int) * 72057594037927936) / 72057594037927936 = ((n % 2 ^ (8 * 1) : Nat) : Int) from low_cut n 8 (by omega))
    clear hy
    go_enter Tryz.func131, Tryz.ntmps131
    go_wp2_with fail
    go_ret
    exact ⟨ret_int HL.out, rfl⟩
  · have HL := Lib.hid (show IntKind.u64.wrap ((n : Int) * 281474976710656) / 281474976710656 = ((n % 2 ^ (8 * 2) : Nat) : Int) from low_cut n 16 (by omega))
    clear hy
    go_enter Tryz.func131, Tryz.ntmps131
    go_wp2_with fail
    go_ret
    exact ⟨ret_int HL.out, rfl⟩
  · have HL := Lib.hid (show IntKind.u64.wrap ((n : Int) * 4294967296) / 4294967296 = ((n % 2 ^ (8 * 4) : Nat) : Int) from low_cut n 32 (by omega))
    clear hy
    go_enter Tryz.func131, Tryz.ntmps131
    go_wp2_with fail
    go_ret
    exact ⟨ret_int HL.out, rfl⟩
  · have HL := Lib.hid (show IntKind.u64.wrap (n : Int) = ((n % 2 ^ (8 * 8) : Nat) : Int) by have h := low_cut n 64 (by omega); simpa using h)
    clear hy
    go_enter Tryz.func131, Tryz.ntmps131
    go_wp2_with fail
    go_ret
    exact ⟨ret_int HL.out, rfl⟩
end Go.Proofs.YtfoifdoaleaekaaGreat
