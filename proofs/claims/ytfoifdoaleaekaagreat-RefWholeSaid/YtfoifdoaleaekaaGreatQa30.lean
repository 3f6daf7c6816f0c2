/-
  Package build: vector.
  Package build: mapped, of numbers and booleans.
  Package build: the typed and the fixed vectors of numbers and booleans.
-/
import Derived.Test.YtfoifdoaleaekaaGreatQa15
import Derived.Test.YtfoifdoaleaekaaGreatQa25
import Derived.Test.YtfoifdoaleaekaaGreatQa29
namespace Go.Proofs.YtfoifdoaleaekaaGreat
open Go.RowKit Go.Acc
/-- What vector's closure reads. -/
structure VcC (M : Bp) (em mn : Int) (A : Option Addr) (n c : Nat) (vs : List Bv) (bx be bm bl : Nat) (w : World) (o : Nat → Nat) : Prop where
  x : Blk w bx 122 #[.pointer (some ⟨M.β, 0, none⟩)]
  e : Blk w be 3 #[.int .i64 em]
  m : Blk w bm 3 #[.int .i64 mn]
  l : Blk w bl 160 #[.slice A n c]
  ox : o bx = 0
  oe : o be = 0
  om : o bm = 0
  ol : o bl = 0
  v : IsV w A n (vs.map vv)
  ov : ∀ ad, A = some ad → ad.block < w.heap.size ∧ o ad.block = 0
section
variable {M : Bp} {em mn : Int} {A : Option Addr} {n c : Nat} {vs : List Bv} {bx be bm bl : Nat} {w w' : World} {o o' : Nat → Nat}
theorem VcC.to_ {I : Nat → Prop} (h : VcC M em mn A n c vs bx be bm bl w o) (ht : To I w o w' o') (hI : ¬ I 0) : VcC M em mn A n c vs bx be bm bl w' o' :=
  ⟨h.x.to_ ht (by rw [h.ox]; exact hI), h.e.to_ ht (by rw [h.oe]; exact hI), h.m.to_ ht (by rw [h.om]; exact hI), h.l.to_ ht (by rw [h.ol]; exact hI),
    by rw [ht.ow _ h.x.lt]; exact h.ox, by rw [ht.ow _ h.e.lt]; exact h.oe, by rw [ht.ow _ h.m.lt]; exact h.om, by rw [ht.ow _ h.l.lt]; exact h.ol,
    h.v.fr ht.fr (fun ad e => by rw [(h.ov ad e).2]; exact hI), fun ad e => ⟨Nat.lt_of_lt_of_le (h.ov ad e).1 ht.size, by rw [ht.ow _ (h.ov ad e).1]; exact (h.ov ad e).2⟩⟩
theorem VcC.cells (h : VcC M em mn A n c vs bx be bm bl w o) : w.cell? ⟨bx, 0, none⟩ = some (.pointer (some ⟨M.β, 0, none⟩)) ∧ w.cell? ⟨be, 0, none⟩ = some (.int .i64 em) ∧ w.cell? ⟨bm, 0, none⟩ = some (.int .i64 mn) ∧ w.cell? ⟨bl, 0, none⟩ = some (.slice A n c) :=
  ⟨h.x.cell 0, h.e.cell 0, h.m.cell 0, h.l.cell 0⟩
theorem VcC.drew (h : VcC M em mn A n c vs bx be bm bl w o) : VcC M em mn A n c vs bx be bm bl w.drew o := h.to_ (To.pure (fun _ => False) (Below.refl _ _).drew o) id
end
theorem ksetl {w : World} {p q : Addr} {u v : Value} (h : w.cell? q = some v) (hne : q.block ≠ p.block) : (w.setCell p u).cell? q = some v :=
  (World.cell?_of_block (w := w) (Below.heap_setCell w p u q.block hne)).trans h
theorem kset3 {w : World} {q : Addr} {g : Nat} {u0 u1 u2 v : Value} (h : w.cell? q = some v) (hne : q.block ≠ g) : (((w.setCell ⟨g, 0, none⟩ u0).setCell ⟨g, 1, none⟩ u1).setCell ⟨g, 2, none⟩ u2).cell? q = some v := ksetl (ksetl (ksetl h hne) hne) hne
theorem below_four (w : World) (x y z u : Obj) : Below w.heap.size w ((((w.alloc x).alloc y).alloc z).alloc u) := (below_three w x y z).alloc (by simp; omega) _
/-- A cell of the call's own variable is set. -/
theorem to_own9 {w : World} {o : Nat → Nat} {p : Addr} (h : o p.block = 9) (v : Value) : To (fun i => i = 9) w o (w.setCell p v) o :=
  To.of_fr0 (Fr.setCell (S := fun k => k = p.block) (Fr.refl _ w) (fun _ => rfl) v) (by rintro k _ rfl; exact h)
theorem bld_9 : ∀ i, Bld i → ¬ i = 9 := by rintro i ⟨h1, h2⟩ rfl; omega
theorem to9 {w : World} {o : Nat → Nat} {g : Nat} (h : o g = 9) (u0 u1 u2 : Value) : To (fun i => i = 9) w o (((w.setCell ⟨g, 0, none⟩ u0).setCell ⟨g, 1, none⟩ u1).setCell ⟨g, 2, none⟩ u2) o :=
  ((to_own9 (p := ⟨g, 0, none⟩) h u0).trans (to_own9 (p := ⟨g, 1, none⟩) h u1)).trans (to_own9 (p := ⟨g, 2, none⟩) h u2)
/-- What Put does for the values at hand. -/
def PutsV (M : Bp) (l : List UInt8) (em mn : Int) (A : Option Addr) (n c : Nat) (vs : List Bv) (x : List UInt8 × Bv) : Prop :=
  ∀ W O, Buf W O M.bb l → IsV W A n (vs.map vv) → (∀ ad, A = some ad → ad.block < W.heap.size ∧ O ad.block ≠ 1) → Calls Tryz.prog 213 #[.pointer (some ⟨M.bb, 0, none⟩), .int .i64 em, .int .i64 mn, .slice A n c] W (VPutW W O M.bb x)
set_option maxRecDepth 100000 in
set_option maxHeartbeats 2000000 in
theorem vector1_spec (M : Bp) (fl : Int) (b : Bd) (em mn : Int) (A : Option Addr) (n c : Nat) (vs : List Bv) (l' : List UInt8) (v' : Bv) (bx be bm bl : Nat) (w : World) (o : Nat → Nat) (h : BM M fl w o b) (hc : VcC M em mn A n c vs bx be bm bl w o) (hs : b.s.length < 65536)
    (hP : PutsV M b.b em mn A n c vs (l', v')) :
    Calls Tryz.prog 212 #[.pointer (some ⟨bx, 0, none⟩), .pointer (some ⟨be, 0, none⟩), .pointer (some ⟨bm, 0, none⟩), .pointer (some ⟨bl, 0, none⟩)] w (BTo M fl { b with b := l', s := b.s ++ [v'] } w o) := by
  have hA := (Below.refl w.heap.size w).alloc (Nat.le_refl _) (.cells #[.int .i64 0, .int .i64 0, .int .u64 0] 185)
  have hAD := hA.drew
  have hM0 := h.fresh hAD 9
  have hC0 := hc.to_ (To.fresh (fun _ => False) hAD o 9) id
  have HX0 := Lib.hid (show Blk (w.alloc (.cells #[.int .i64 0, .int .i64 0, .int .u64 0] 185)).drew w.heap.size 185 #[.int .i64 0, .int .i64 0, .int .u64 0] from Blk.new _ _ _)
  have HO0 := Lib.hid (show newO o w.heap.size 9 w.heap.size = 9 from newO_new (Nat.le_refl _))
  have HT0 := Lib.hid (To.fresh Bld hAD o 9)
  have HM := Lib.hid hM0
  have HC := Lib.hid hC0
  have HS := Lib.hid hs
  have HPB := Lib.hid (hP _ _ h.drew.buf hc.drew.v (fun ad e => ⟨(hc.drew.ov ad e).1, by rw [(hc.drew.ov ad e).2]; omega⟩))
  have HMB := Lib.hid h.drew
  have HCB := Lib.hid hc.drew
  have HP := Lib.hid (hP _ _ hM0.buf hC0.v (fun ad e => ⟨(hC0.ov ad e).1, by rw [(hC0.ov ad e).2]; omega⟩))
  obtain ⟨x0, x1, x2, x3⟩ := hc.cells
  have x4 := h.head.cells.1
  have nx : bx ≠ w.heap.size := Nat.ne_of_lt hc.x.lt
  have ne : be ≠ w.heap.size := Nat.ne_of_lt hc.e.lt
  have nm : bm ≠ w.heap.size := Nat.ne_of_lt hc.m.lt
  have nl : bl ≠ w.heap.size := Nat.ne_of_lt hc.l.lt
  have nb : M.β ≠ w.heap.size := Nat.ne_of_lt (lt_of_cell x4)
  clear h hc hs hP hA hAD hM0 hC0
  go_enter Tryz.func212, Tryz.ntmps212
  go_wp2_with fail
  go_cut [4, 5] (fun u4 u5 wx => ∃ wy, wy = wx ∧ u5 = .int .i64 0 ∧ ∃ b4 o4, u4 = .pointer (some ⟨b4, 0, none⟩) ∧ BM M fl wx o4 { b with b := l' } ∧ VcC M em mn A n c vs bx be bm bl wx o4 ∧ Blk wx b4 185 #[.int .i64 (v'.t : Int), .int .i64 (v'.w : Int), .int .u64 (v'.n : Int)] ∧ o4 b4 = 9 ∧ To Bld w o wx o4)
  case first =>
    go_region_held3 (fun w' => w'.cell? ⟨bx, 0, none⟩ = some (.pointer (some ⟨M.β, 0, none⟩)) ∧ w'.cell? ⟨be, 0, none⟩ = some (.int .i64 em) ∧ w'.cell? ⟨bm, 0, none⟩ = some (.int .i64 mn) ∧ w'.cell? ⟨bl, 0, none⟩ = some (.slice A n c) ∧ w'.cell? ⟨M.β, 0, none⟩ = some (.pointer (some ⟨M.bb, 0, none⟩))) (first | with_reducible exact ⟨x0, x1, x2, x3, x4⟩ | with_reducible exact ⟨kdrew x0, kdrew x1, kdrew x2, kdrew x3, kdrew x4⟩ | with_reducible exact ⟨kalloc _ x0, kalloc _ x1, kalloc _ x2, kalloc _ x3, kalloc _ x4⟩ | with_reducible exact ⟨kdrew (kalloc _ x0), kdrew (kalloc _ x1), kdrew (kalloc _ x2), kdrew (kalloc _ x3), kdrew (kalloc _ x4)⟩ | with_reducible exact ⟨y0, y1, y2, y3, y4⟩ | with_reducible exact ⟨kalloc _ y0, kalloc _ y1, kalloc _ y2, kalloc _ y3, kalloc _ y4⟩ | with_reducible exact ⟨kset3 (kalloc _ y0) px, kset3 (kalloc _ y1) pe, kset3 (kalloc _ y2) pm, kset3 (kalloc _ y3) pl, kset3 (kalloc _ y4) pb⟩ | with_reducible exact ⟨kset3 y0 nx, kset3 y1 ne, kset3 y2 nm, kset3 y3 nl, kset3 y4 nb⟩) (first | (go_at_call 213; (with_reducible refine HP.out.mono ?_); rintro e W1 ⟨rfl, o1, hB1, hT1⟩; have hM1 := HM.out.buf_ hT1 hB1; have hC1 := HC.out.to_ hT1 (by omega); obtain ⟨y0, y1, y2, y3⟩ := hC1.cells; have y4 := hM1.head.cells.1; have hX1 := HX0.out.to_ hT1 (by rw [HO0.out]; omega); have f0 := hX1.frozen 0; have f1 := hX1.frozen 1; have f2 := hX1.frozen 2; have z0 : W1.cell? ⟨w.heap.size, 0, none⟩ = some (.int .i64 0) := hX1.cell 0; have z1 : W1.cell? ⟨w.heap.size, 1, none⟩ = some (.int .i64 0) := hX1.cell 1; have z2 : W1.cell? ⟨w.heap.size, 2, none⟩ = some (.int .u64 0) := hX1.cell 2; have HO1 := Lib.hid (show o1 w.heap.size = 9 from (hT1.ow _ HX0.out.lt).trans HO0.out); have HX1 := Lib.hid hX1; have HM1 := Lib.hid hM1; have HC1 := Lib.hid hC1; have HT1 := Lib.hid (HT0.out.trans (hT1.mono fun _ h => bld_1 h)); clear hB1 hT1 hM1 hC1 hX1) | (go_at_call 213; (with_reducible refine HPB.out.mono ?_); rintro e W1 ⟨rfl, o1, hB1, hT1⟩; have hM1 := HMB.out.buf_ hT1 hB1; have hC1 := HCB.out.to_ hT1 (by omega); obtain ⟨y0, y1, y2, y3⟩ := hC1.cells; have y4 := hM1.head.cells.1; have px : bx ≠ W1.heap.size := Nat.ne_of_lt (lt_of_cell y0); have pe : be ≠ W1.heap.size := Nat.ne_of_lt (lt_of_cell y1); have pm : bm ≠ W1.heap.size := Nat.ne_of_lt (lt_of_cell y2); have pl : bl ≠ W1.heap.size := Nat.ne_of_lt (lt_of_cell y3); have pb : M.β ≠ W1.heap.size := Nat.ne_of_lt (lt_of_cell y4); have HM1 := Lib.hid hM1; have HC1 := Lib.hid hC1; have HT1 := Lib.hid (hT1.from_drew.mono fun _ h => bld_1 h); clear hB1 hT1 hM1 hC1))
    all_goals
      go_wp2_with fail
      go_meet
    all_goals
      first
      | exact ⟨_, rfl, rfl, w.heap.size, o1, rfl, HM1.out.to_ (to9 HO1.out _ _ _) bld_9, HC1.out.to_ (to9 HO1.out _ _ _) (by decide), ((HX1.out.set_ 0 (.int .i64 (v'.t : Int))).set_ 1 (.int .i64 (v'.w : Int))).set_ 2 (.int .u64 (v'.n : Int)), HO1.out, ((HT1.out.set_new (p := ⟨w.heap.size, 0, none⟩) (Nat.le_refl _) _).set_new (p := ⟨w.heap.size, 1, none⟩) (Nat.le_refl _) _).set_new (p := ⟨w.heap.size, 2, none⟩) (Nat.le_refl _) _⟩
      | exact ⟨_, rfl, rfl, W1.heap.size, newO o1 W1.heap.size 9, rfl, HM1.out.fresh ((Below.refl W1.heap.size W1).alloc (Nat.le_refl _) _) 9, HC1.out.to_ (To.fresh (fun _ => False) ((Below.refl W1.heap.size W1).alloc (Nat.le_refl _) _) o1 9) id, Blk.new _ _ _, newO_new (Nat.le_refl _), HT1.out.trans (To.fresh Bld ((Below.refl W1.heap.size W1).alloc (Nat.le_refl _) _) o1 9)⟩
  case rest =>
    obtain ⟨w4, rfl, rfl, b4, o4, rfl, hM4, hC4, hX4, hO4, hT4⟩ := hcut
    have HM4 := Lib.hid hM4
    have HC4 := Lib.hid hC4
    have HX4 := Lib.hid hX4
    have HO4 := Lib.hid hO4
    have HT4 := Lib.hid hT4
    clear hM4 hC4 hX4 hO4 hT4 x0 x1 x2 x3 x4 nx ne nm nl nb HM HC HP HPB HMB HCB HX0 HO0 HT0
    obtain ⟨x0, x1, x2, x3⟩ := HC4.out.cells
    go_wp2_with fail
    go_at_call 127
    refine (fail_ok HM4.out).mono ?_
    rintro e w5 ⟨rfl, o5, hM5, hT5⟩
    have HM5 := Lib.hid hM5
    have HC5 := Lib.hid (HC4.out.to_ hT5 bld_0)
    have HX5 := Lib.hid (HX4.out.to_ hT5 (by rw [HO4.out]; exact fun h => bld_9 9 h rfl))
    have HO5 := Lib.hid (show o5 b4 = 9 from (hT5.ow _ HX4.out.lt).trans HO4.out)
    have HT5 := Lib.hid (HT4.out.trans hT5)
    clear hM5 hT5 x0 x1 x2 x3
    obtain ⟨x0, x1, x2, x3⟩ := HC5.out.cells
    have v0 : w5.cell? ⟨b4, 0, none⟩ = some (.int .i64 (v'.t : Int)) := HX5.out.cell 0
    have v1 : w5.cell? ⟨b4, 1, none⟩ = some (.int .i64 (v'.w : Int)) := HX5.out.cell 1
    have v2 : w5.cell? ⟨b4, 2, none⟩ = some (.int .u64 (v'.n : Int)) := HX5.out.cell 2
    go_wp2_with fail
    go_region_held3 (fun w' => w'.cell? ⟨bx, 0, none⟩ = some (.pointer (some ⟨M.β, 0, none⟩)) ∧ w'.cell? ⟨b4, 0, none⟩ = some (.int .i64 (v'.t : Int)) ∧ w'.cell? ⟨b4, 1, none⟩ = some (.int .i64 (v'.w : Int)) ∧ w'.cell? ⟨b4, 2, none⟩ = some (.int .u64 (v'.n : Int))) (first | with_reducible exact ⟨x0, v0, v1, v2⟩ | with_reducible exact ⟨kdrew x0, kdrew v0, kdrew v1, kdrew v2⟩ | with_reducible exact ⟨y0, y1, y2, y3⟩) (first | (go_at_call 173; (with_reducible refine (pushp_spec M fl { b with b := l' } v' _ o5 HM5.out.drew HS.out).mono ?_); rintro e w6 ⟨rfl, o6, hM6, hT6⟩; have y0 : w6.cell? ⟨bx, 0, none⟩ = some (.pointer (some ⟨M.β, 0, none⟩)) := ((HC5.out.to_ hT6.from_drew bld_0).x).cell 0; have hX6 := HX5.out.to_ hT6.from_drew (by rw [HO5.out]; exact fun h => bld_9 9 h rfl); have y1 : w6.cell? ⟨b4, 0, none⟩ = some (.int .i64 (v'.t : Int)) := hX6.cell 0; have y2 : w6.cell? ⟨b4, 1, none⟩ = some (.int .i64 (v'.w : Int)) := hX6.cell 1; have y3 : w6.cell? ⟨b4, 2, none⟩ = some (.int .u64 (v'.n : Int)) := hX6.cell 2; have HM6 := Lib.hid hM6; have HT6 := Lib.hid (HT5.out.trans hT6.from_drew); clear hM6 hT6 hX6))
    go_wp2_with fail
    go_end0
    exact ⟨rfl, o6, HM6.out, HT6.out⟩
set_option maxHeartbeats 1000000 in
theorem vector_spec (M : Bp) (fl : Int) (b : Bd) (em mn : Int) (A : Option Addr) (n c : Nat) (vs : List Bv) (l' : List UInt8) (v' : Bv) (w : World) (o : Nat → Nat) (h : BM M fl w o b) (hv : IsV w A n (vs.map vv)) (ho : ∀ ad, A = some ad → ad.block < w.heap.size ∧ o ad.block = 0) (hs : b.s.length < 65536)
    (hP : PutsV M b.b em mn A n c vs (l', v')) :
    Calls Tryz.prog 156 #[.pointer (some ⟨M.β, 0, none⟩), .int .i64 em, .int .i64 mn, .slice A n c] w (BTo M fl { b with b := l', s := b.s ++ [v'] } w o) := by
  have HS := Lib.hid hs
  have HP := Lib.hid hP
  have hB := below_four w (.cells #[.pointer (some ⟨M.β, 0, none⟩)] 122) (.cells #[.int .i64 em] 3) (.cells #[.int .i64 mn] 3) (.cells #[.slice A n c] 160)
  have HB := Lib.hid hB
  have HM := Lib.hid (h.fresh hB 0)
  have HC := Lib.hid (show VcC M em mn A n c vs w.heap.size (w.heap.size + 1) (w.heap.size + 1 + 1) (w.heap.size + 1 + 1 + 1) ((((w.alloc (.cells #[.pointer (some ⟨M.β, 0, none⟩)] 122)).alloc (.cells #[.int .i64 em] 3)).alloc (.cells #[.int .i64 mn] 3)).alloc (.cells #[.slice A n c] 160)) (newO o w.heap.size 0) from
    ⟨(((Blk.new w 122 #[.pointer (some ⟨M.β, 0, none⟩)]).alloc _).alloc _).alloc _, ((blk_new2 w _ 3 #[.int .i64 em]).alloc _).alloc _, (blk_new3 w _ _ 3 #[.int .i64 mn]).alloc _, Blk.new_ (by simp) _ _, newO_new (by omega), newO_new (by omega), newO_new (by omega), newO_new (by omega), hv.pure hB, fun ad e => ⟨by have h1 := (ho ad e).1; have h2 := hB.size; omega, by rw [newO_old (ho ad e).1]; exact (ho ad e).2⟩⟩)
  clear h hs hB hP hv ho
  go_enter Tryz.func156, Tryz.ntmps156
  go_wp2_with fail
  go_at_call 163
  refine (unless_spec M fl 212 _ _ (newO o w.heap.size 0) b.vals _ HM.out.head Tryz.call212 ((vector1_spec M fl b em mn A n c vs l' v' w.heap.size (w.heap.size + 1) (w.heap.size + 1 + 1) (w.heap.size + 1 + 1 + 1) _ (newO o w.heap.size 0) HM.out HC.out HS.out HP.out).mono fun e w' h => ⟨h.1, h⟩)).mono ?_
  rintro e w' hR
  obtain rfl := hR.1
  have HR := Lib.hid (hR.from_fresh HB.out)
  clear hR
  go_wp2
  go_end0
  exact HR.out
end Go.Proofs.YtfoifdoaleaekaaGreat

namespace Go.Proofs.YtfoifdoaleaekaaGreat
open Go.RowKit Go.Acc
/-- Values of the call's own. -/
def MappedW (w : World) (n : Nat) (vs : List Bv) (e : Ending) (w' : World) : Prop :=
  ∃ A c, e = .returned (.slice A n c) ∧ OwnV w' w.heap.size A n c (vs.map vv) ∧ Below w.heap.size w w'
theorem isv_lit (W : World) (v : Bv) : IsV (W.alloc (.cells #[.int .i64 (v.t : Int), .int .i64 (v.w : Int), .int .u64 (v.n : Int)] 185)) (some ⟨W.heap.size, 0, none⟩) 1 [vv v] := (ownv_lit W v).is
theorem is1_at {α : Type} {f : α → List Value} {w : World} {A : Option Addr} {n : Nat} {l : List α} {g : α → Value} (hf : ∀ x, f x = [g x]) (h : Is f w A n l) {k : Nat} (hk : k < n) :
    ∃ b off x, A = some ⟨b, off, none⟩ ∧ l[k]? = some x ∧ w.cell? ⟨b, off + k, none⟩ = some (g x) := by
  obtain ⟨b, off, e, hk', hc⟩ := h.at_ (sz := 1) (fun x => by rw [hf]; rfl) (by omega) hk
  refine ⟨b, off, l[k], e, List.getElem?_eq_getElem hk', ?_⟩
  have h0 := hc 0 (by omega)
  simp only [hf, Nat.mul_one, Nat.add_zero] at h0
  exact h0
set_option maxRecDepth 100000 in
set_option maxHeartbeats 2000000 in
theorem mapn_spec (A : Option Addr) (n c : Nat) (l : List Int) (w : World) (hI : Is nbc w A n l) (hn : n ≤ 1000000) (hbd : ∀ x ∈ l, -9223372036854775808 ≤ x ∧ x ≤ 9223372036854775807) : Calls Tryz.prog 157 #[.func (.func 158) #[] #[], .slice A n c] w (MappedW w n (l.map numV)) := by
  have HI := Lib.hid hI
  have HL := Lib.hid hI.1
  have HBD := Lib.hid hbd
  clear hI hbd
  go_enter Tryz.func157, Tryz.ntmps157
  go_wp2_with fail
  go_loopw [4, 9] (fun s u wr => ∃ k : Nat, k ≤ n ∧ u = .int .i64 k ∧ ∃ A c, s = .slice A k c ∧ OwnV wr w.heap.size A k c (((l.take k).map numV).map vv) ∧ Below w.heap.size w wr) (fun _ u _ => n - (intOf u).toNat)
  case atStart => exact ⟨0, Nat.zero_le _, rfl, none, 0, rfl, Own.nil _ _, Below.refl _ _⟩
  case round =>
    obtain ⟨k, hk, rfl, A, c, rfl, ho, hbr⟩ := hrel
    have HO := Lib.hid ho
    have HBR := Lib.hid hbr
    have hIr := HI.out.pure hbr
    clear ho hbr
    by_cases hlt : k < n
    · obtain ⟨g, off, x, e, hx, v0⟩ := is1_at (fun _ => rfl) hIr hlt
      have HT := Lib.hid (show ((l.take (k + 1)).map numV).map vv = ((l.take k).map numV).map vv ++ [vv (numV x)] by
        obtain ⟨q1, q2⟩ := List.getElem?_eq_some_iff.1 hx
        rw [List.take_succ_eq_append_getElem q1, q2, List.map_append, List.map_append]; rfl)
      have HX := Lib.hid (HBD.out x (List.mem_of_getElem? hx))
      have hk0 : (0 : Int) ≤ (k : Int) := by omega
      have hkn : (k : Int) < (n : Int) := by omega
      rw [e]
      clear hIr hx e
      go_wp2_with fail
      go_at_call 158
      refine (num_spec x _ HX.out).mono ?_
      rintro e w2 ⟨rfl, hb⟩
      have HB2 := Lib.hid (pure_below HBR.out hb)
      have HO2 := Lib.hid (HO.out.pure hb)
      clear hb v0
      obtain ⟨y, hy⟩ : ∃ y, numV x = y := ⟨_, rfl⟩
      rw [hy] at HT ⊢
      clear hy
      have HB3 := Lib.hid (HB2.out.alloc HB2.out.size (.cells #[.int .i64 (y.t : Int), .int .i64 (y.w : Int), .int .u64 (y.n : Int)] 185))
      have HO3 := Lib.hid (HO2.out.pure ((Below.refl w2.heap.size w2).alloc (Nat.le_refl _) (.cells #[.int .i64 (y.t : Int), .int .i64 (y.w : Int), .int .u64 (y.n : Int)] 185)))
      have HI3 := Lib.hid (isv_lit w2 y)
      go_wp2_with (at_builtin; refine wpl_app _ rfl (.tmp 13) (.tmp 17) _ rfl 185 _ 3 24 Tryz.underlying160 info_v rfl (by omega) vc_len vc_one _ _ _ _ _ rfl HO3.out _ _ _ _ rfl HI3.out (by omega) HB3.out.size ?_; intro A1 c1 w1 hown1 hfr1 hat1)
      have HO4 := Lib.hid hown1
      have HB4 := Lib.hid (below_fr HB3.out hfr1 (by rintro j ⟨ad, e, rfl⟩; exact (HO3.out.addr ad e).2.1))
      clear hown1 hfr1 hat1
      go_wp2_with fail
      go_roundw
      case rel => exact ⟨k + 1, by omega, by go_num, A1, c1, rfl, by rw [HT.out]; exact HO4.out, HB4.out⟩
      case measure => simp [intOf]; omega
    · obtain rfl : k = n := by omega
      have HE := Lib.hid (show l.take k = l from List.take_of_length_le (by have := HL.out; omega))
      rw [HE.out] at HO
      clear hIr
      go_wp2_with fail
      go_ret
      exact ⟨A, c, rfl, HO.out, HBR.out⟩
set_option maxRecDepth 100000 in
set_option maxHeartbeats 2000000 in
theorem mapu_spec (A : Option Addr) (n c : Nat) (l : List Nat) (w : World) (hI : Is ubc w A n l) (hn : n ≤ 1000000) (hbd : ∀ x ∈ l, x < 18446744073709551616) : Calls Tryz.prog 159 #[.func (.func 160) #[] #[], .slice A n c] w (MappedW w n (l.map unsV)) := by
  have HI := Lib.hid hI
  have HL := Lib.hid hI.1
  have HBD := Lib.hid hbd
  clear hI hbd
  go_enter Tryz.func159, Tryz.ntmps159
  go_wp2_with fail
  go_loopw [4, 9] (fun s u wr => ∃ k : Nat, k ≤ n ∧ u = .int .i64 k ∧ ∃ A c, s = .slice A k c ∧ OwnV wr w.heap.size A k c (((l.take k).map unsV).map vv) ∧ Below w.heap.size w wr) (fun _ u _ => n - (intOf u).toNat)
  case atStart => exact ⟨0, Nat.zero_le _, rfl, none, 0, rfl, Own.nil _ _, Below.refl _ _⟩
  case round =>
    obtain ⟨k, hk, rfl, A, c, rfl, ho, hbr⟩ := hrel
    have HO := Lib.hid ho
    have HBR := Lib.hid hbr
    have hIr := HI.out.pure hbr
    clear ho hbr
    by_cases hlt : k < n
    · obtain ⟨g, off, x, e, hx, v0⟩ := is1_at (fun _ => rfl) hIr hlt
      have HT := Lib.hid (show ((l.take (k + 1)).map unsV).map vv = ((l.take k).map unsV).map vv ++ [vv (unsV x)] by
        obtain ⟨q1, q2⟩ := List.getElem?_eq_some_iff.1 hx
        rw [List.take_succ_eq_append_getElem q1, q2, List.map_append, List.map_append]; rfl)
      have HX := Lib.hid (HBD.out x (List.mem_of_getElem? hx))
      have hk0 : (0 : Int) ≤ (k : Int) := by omega
      have hkn : (k : Int) < (n : Int) := by omega
      rw [e]
      clear hIr hx e
      go_wp2_with fail
      go_at_call 160
      refine (uns_spec x _ HX.out).mono ?_
      rintro e w2 ⟨rfl, hb⟩
      have HB2 := Lib.hid (pure_below HBR.out hb)
      have HO2 := Lib.hid (HO.out.pure hb)
      clear hb v0
      obtain ⟨y, hy⟩ : ∃ y, unsV x = y := ⟨_, rfl⟩
      rw [hy] at HT ⊢
      clear hy
      have HB3 := Lib.hid (HB2.out.alloc HB2.out.size (.cells #[.int .i64 (y.t : Int), .int .i64 (y.w : Int), .int .u64 (y.n : Int)] 185))
      have HO3 := Lib.hid (HO2.out.pure ((Below.refl w2.heap.size w2).alloc (Nat.le_refl _) (.cells #[.int .i64 (y.t : Int), .int .i64 (y.w : Int), .int .u64 (y.n : Int)] 185)))
      have HI3 := Lib.hid (isv_lit w2 y)
      go_wp2_with (at_builtin; refine wpl_app _ rfl (.tmp 13) (.tmp 17) _ rfl 185 _ 3 24 Tryz.underlying160 info_v rfl (by omega) vc_len vc_one _ _ _ _ _ rfl HO3.out _ _ _ _ rfl HI3.out (by omega) HB3.out.size ?_; intro A1 c1 w1 hown1 hfr1 hat1)
      have HO4 := Lib.hid hown1
      have HB4 := Lib.hid (below_fr HB3.out hfr1 (by rintro j ⟨ad, e, rfl⟩; exact (HO3.out.addr ad e).2.1))
      clear hown1 hfr1 hat1
      go_wp2_with fail
      go_roundw
      case rel => exact ⟨k + 1, by omega, by go_num, A1, c1, rfl, by rw [HT.out]; exact HO4.out, HB4.out⟩
      case measure => simp [intOf]; omega
    · obtain rfl : k = n := by omega
      have HE := Lib.hid (show l.take k = l from List.take_of_length_le (by have := HL.out; omega))
      rw [HE.out] at HO
      clear hIr
      go_wp2_with fail
      go_ret
      exact ⟨A, c, rfl, HO.out, HBR.out⟩
/-- A boolean's value. -/
def boolV (b : Bool) : Bv := ⟨26, 1, if b = true then 1 else 0⟩
theorem truth_b (b : Bool) (w : World) : Calls Tryz.prog 162 #[.bool b] w fun e w' => e = .returned (.agg #[.int .i64 ((boolV b).t : Int), .int .i64 ((boolV b).w : Int), .int .u64 ((boolV b).n : Int)]) ∧ Below w.heap.size w w' := by
  cases b with
  | true => exact truth_spec 1 true w rfl
  | false => exact truth_spec 0 false w rfl
set_option maxRecDepth 100000 in
set_option maxHeartbeats 2000000 in
theorem mapb_spec (A : Option Addr) (n c : Nat) (l : List Bool) (w : World) (hI : Is bbc w A n l) (hn : n ≤ 1000000) (hbd : ∀ x ∈ l, x = true ∨ x = false) : Calls Tryz.prog 161 #[.func (.func 162) #[] #[], .slice A n c] w (MappedW w n (l.map boolV)) := by
  have HI := Lib.hid hI
  have HL := Lib.hid hI.1
  have HBD := Lib.hid hbd
  clear hI hbd
  go_enter Tryz.func161, Tryz.ntmps161
  go_wp2_with fail
  go_loopw [4, 9] (fun s u wr => ∃ k : Nat, k ≤ n ∧ u = .int .i64 k ∧ ∃ A c, s = .slice A k c ∧ OwnV wr w.heap.size A k c (((l.take k).map boolV).map vv) ∧ Below w.heap.size w wr) (fun _ u _ => n - (intOf u).toNat)
  case atStart => exact ⟨0, Nat.zero_le _, rfl, none, 0, rfl, Own.nil _ _, Below.refl _ _⟩
  case round =>
    obtain ⟨k, hk, rfl, A, c, rfl, ho, hbr⟩ := hrel
    have HO := Lib.hid ho
    have HBR := Lib.hid hbr
    have hIr := HI.out.pure hbr
    clear ho hbr
    by_cases hlt : k < n
    · obtain ⟨g, off, x, e, hx, v0⟩ := is1_at (fun _ => rfl) hIr hlt
      have HT := Lib.hid (show ((l.take (k + 1)).map boolV).map vv = ((l.take k).map boolV).map vv ++ [vv (boolV x)] by
        obtain ⟨q1, q2⟩ := List.getElem?_eq_some_iff.1 hx
        rw [List.take_succ_eq_append_getElem q1, q2, List.map_append, List.map_append]; rfl)
      have HX := Lib.hid (HBD.out x (List.mem_of_getElem? hx))
      have hk0 : (0 : Int) ≤ (k : Int) := by omega
      have hkn : (k : Int) < (n : Int) := by omega
      rw [e]
      clear hIr hx e
      go_wp2_with fail
      go_at_call 162
      refine (truth_b x _).mono ?_
      rintro e w2 ⟨rfl, hb⟩
      have HB2 := Lib.hid (pure_below HBR.out hb)
      have HO2 := Lib.hid (HO.out.pure hb)
      clear hb v0
      obtain ⟨y, hy⟩ : ∃ y, boolV x = y := ⟨_, rfl⟩
      rw [hy] at HT ⊢
      clear hy
      have HB3 := Lib.hid (HB2.out.alloc HB2.out.size (.cells #[.int .i64 (y.t : Int), .int .i64 (y.w : Int), .int .u64 (y.n : Int)] 185))
      have HO3 := Lib.hid (HO2.out.pure ((Below.refl w2.heap.size w2).alloc (Nat.le_refl _) (.cells #[.int .i64 (y.t : Int), .int .i64 (y.w : Int), .int .u64 (y.n : Int)] 185)))
      have HI3 := Lib.hid (isv_lit w2 y)
      go_wp2_with (at_builtin; refine wpl_app _ rfl (.tmp 13) (.tmp 17) _ rfl 185 _ 3 24 Tryz.underlying160 info_v rfl (by omega) vc_len vc_one _ _ _ _ _ rfl HO3.out _ _ _ _ rfl HI3.out (by omega) HB3.out.size ?_; intro A1 c1 w1 hown1 hfr1 hat1)
      have HO4 := Lib.hid hown1
      have HB4 := Lib.hid (below_fr HB3.out hfr1 (by rintro j ⟨ad, e, rfl⟩; exact (HO3.out.addr ad e).2.1))
      clear hown1 hfr1 hat1
      go_wp2_with fail
      go_roundw
      case rel => exact ⟨k + 1, by omega, by go_num, A1, c1, rfl, by rw [HT.out]; exact HO4.out, HB4.out⟩
      case measure => simp [intOf]; omega
    · obtain rfl : k = n := by omega
      have HE := Lib.hid (show l.take k = l from List.take_of_length_le (by have := HL.out; omega))
      rw [HE.out] at HO
      clear hIr
      go_wp2_with fail
      go_ret
      exact ⟨A, c, rfl, HO.out, HBR.out⟩
end Go.Proofs.YtfoifdoaleaekaaGreat

namespace Go.Proofs.YtfoifdoaleaekaaGreat
open Go.RowKit Go.Acc
theorem numv_ok {l : List Int} {b : List UInt8} (hl : b.length + 40 + 9 * l.length ≤ 1048576) : VecOk (l.map numV) b :=
  ⟨fun v h => by obtain ⟨x, _, rfl⟩ := List.mem_map.1 h; exact (show legalT ((1 : Nat) : Int) = true by decide), fun v h => by obtain ⟨x, _, rfl⟩ := List.mem_map.1 h; exact bWidthI_is x,
    fun v h => by obtain ⟨x, _, rfl⟩ := List.mem_map.1 h; exact numV_fit x _, by rw [List.length_map]; exact hl⟩
theorem unsv_ok {l : List Nat} {b : List UInt8} (hl : b.length + 40 + 9 * l.length ≤ 1048576) : VecOk (l.map unsV) b :=
  ⟨fun v h => by obtain ⟨x, _, rfl⟩ := List.mem_map.1 h; exact (show legalT ((2 : Nat) : Int) = true by decide), fun v h => by obtain ⟨x, _, rfl⟩ := List.mem_map.1 h; exact bWidth_is x,
    fun v h => by obtain ⟨x, _, rfl⟩ := List.mem_map.1 h; exact unsV_fit x _, by rw [List.length_map]; exact hl⟩
theorem boolv_ok {l : List Bool} {b : List UInt8} (hl : b.length + 40 + 9 * l.length ≤ 1048576) : VecOk (l.map boolV) b :=
  ⟨fun v h => by obtain ⟨x, _, rfl⟩ := List.mem_map.1 h; exact (show legalT ((26 : Nat) : Int) = true by decide), fun v h => by obtain ⟨x, _, rfl⟩ := List.mem_map.1 h; exact (show isW ((1 : Nat) : Int) = true by decide),
    fun v h => by obtain ⟨x, _, rfl⟩ := List.mem_map.1 h; exact ⟨fun _ => (show 1 ≤ 8 by omega), fun h => absurd h (show ¬ inl 26 = false by decide)⟩, by rw [List.length_map]; exact hl⟩
theorem puts_t0 {M : Bp} {l : List UInt8} {e : Nat} {A : Option Addr} {n c : Nat} {vs : List Bv} (hok : VecOk vs l) (hty : TyOk e 0) (hel : ∀ v ∈ vs, v.t = e) : PutsV M l e 0 A n c vs (bVec (vecTy e 0) true false vs l) :=
  fun W O hb hv ho => vput_t0 M.bb e n c A vs l W O hb hv ho hok hty hel
theorem puts_tm {M : Bp} {l : List UInt8} {e : Nat} {A : Option Addr} {n c : Nat} {vs : List Bv} (hok : VecOk vs l) (hty : TyOk e n) (hn : 0 < n) (hel : ∀ v ∈ vs, v.t = e) : PutsV M l e n A n c vs (bVec (vecTy e n) false false vs l) :=
  fun W O hb hv ho => vput_tm M.bb e n c A vs l W O hb hv ho hok hty hn hel
theorem puts_un {M : Bp} {l : List UInt8} {A : Option Addr} {n c : Nat} {vs : List Bv} (hok : VecOk vs l) : PutsV M l (-1) 0 A n c vs (bVec 10 true true vs l) :=
  fun W O hb hv ho => vput_un M.bb n c A vs l W O hb hv ho hok
set_option maxHeartbeats 1000000 in
theorem ints_spec (M : Bp) (fl : Int) (b : Bd) (A : Option Addr) (n c : Nat) (l : List Int) (w : World) (o : Nat → Nat) (h : BM M fl w o b) (hI : Is nbc w A n l) (hn : n ≤ 1000000) (hs : b.s.length < 65536) (hbd : ∀ x ∈ l, -9223372036854775808 ≤ x ∧ x ≤ 9223372036854775807) (hl : b.b.length + 40 + 9 * l.length ≤ 1048576) :
    Calls Tryz.prog 104 #[.pointer (some ⟨M.β, 0, none⟩), .slice A n c] w (BTo M fl (b.vec 11 true false (l.map numV)) w o) := by
  have HM := Lib.hid h
  have HI := Lib.hid hI
  have HS := Lib.hid hs
  have HBD := Lib.hid hbd
  have HL := Lib.hid hl
  clear h hI hs hbd hl
  go_enter Tryz.func104, Tryz.ntmps104
  go_wp2_with fail
  go_at_call 157
  refine (mapn_spec A n c l _ HI.out hn HBD.out).mono ?_
  rintro e w1 ⟨A1, c1, rfl, hO, hb⟩
  have HM1 := Lib.hid (HM.out.fresh hb 0)
  have HO1 := Lib.hid hO
  have HB1 := Lib.hid hb
  clear hO hb
  have HP := Lib.hid (puts_t0 (M := M) (A := A1) (n := n) (c := c1) (numv_ok HL.out) (e := 1) (by unfold TyOk; omega) (fun v hv => by obtain ⟨x, _, rfl⟩ := List.mem_map.1 hv; rfl))
  go_wp2_with fail
  go_at_call 156
  refine (vector_spec M fl b ((1 : Nat) : Int) 0 A1 n c1 (l.map numV) (bVec 11 true false (l.map numV) b.b).1 (bVec 11 true false (l.map numV) b.b).2 w1 _ HM1.out HO1.out.is (fun ad e => ⟨(HO1.out.addr ad e).2.2, newO_new (HO1.out.addr ad e).2.1⟩) HS.out HP.out).mono ?_
  rintro e w2 hR
  obtain rfl := hR.1
  have HR := Lib.hid (BTo.from_fresh HB1.out hR)
  clear hR
  go_wp2_with fail
  go_end0
  exact HR.out
set_option maxHeartbeats 1000000 in
theorem uints_spec (M : Bp) (fl : Int) (b : Bd) (A : Option Addr) (n c : Nat) (l : List Nat) (w : World) (o : Nat → Nat) (h : BM M fl w o b) (hI : Is ubc w A n l) (hn : n ≤ 1000000) (hs : b.s.length < 65536) (hbd : ∀ x ∈ l, x < 18446744073709551616) (hl : b.b.length + 40 + 9 * l.length ≤ 1048576) :
    Calls Tryz.prog 107 #[.pointer (some ⟨M.β, 0, none⟩), .slice A n c] w (BTo M fl (b.vec 12 true false (l.map unsV)) w o) := by
  have HM := Lib.hid h
  have HI := Lib.hid hI
  have HS := Lib.hid hs
  have HBD := Lib.hid hbd
  have HL := Lib.hid hl
  clear h hI hs hbd hl
  go_enter Tryz.func107, Tryz.ntmps107
  go_wp2_with fail
  go_at_call 159
  refine (mapu_spec A n c l _ HI.out hn HBD.out).mono ?_
  rintro e w1 ⟨A1, c1, rfl, hO, hb⟩
  have HM1 := Lib.hid (HM.out.fresh hb 0)
  have HO1 := Lib.hid hO
  have HB1 := Lib.hid hb
  clear hO hb
  have HP := Lib.hid (puts_t0 (M := M) (A := A1) (n := n) (c := c1) (unsv_ok HL.out) (e := 2) (by unfold TyOk; omega) (fun v hv => by obtain ⟨x, _, rfl⟩ := List.mem_map.1 hv; rfl))
  go_wp2_with fail
  go_at_call 156
  refine (vector_spec M fl b ((2 : Nat) : Int) 0 A1 n c1 (l.map unsV) (bVec 12 true false (l.map unsV) b.b).1 (bVec 12 true false (l.map unsV) b.b).2 w1 _ HM1.out HO1.out.is (fun ad e => ⟨(HO1.out.addr ad e).2.2, newO_new (HO1.out.addr ad e).2.1⟩) HS.out HP.out).mono ?_
  rintro e w2 hR
  obtain rfl := hR.1
  have HR := Lib.hid (BTo.from_fresh HB1.out hR)
  clear hR
  go_wp2_with fail
  go_end0
  exact HR.out
set_option maxHeartbeats 1000000 in
theorem bools_spec (M : Bp) (fl : Int) (b : Bd) (A : Option Addr) (n c : Nat) (l : List Bool) (w : World) (o : Nat → Nat) (h : BM M fl w o b) (hI : Is bbc w A n l) (hn : n ≤ 1000000) (hs : b.s.length < 65536) (hbd : ∀ x ∈ l, x = true ∨ x = false) (hl : b.b.length + 40 + 9 * l.length ≤ 1048576) :
    Calls Tryz.prog 110 #[.pointer (some ⟨M.β, 0, none⟩), .slice A n c] w (BTo M fl (b.vec 36 true false (l.map boolV)) w o) := by
  have HM := Lib.hid h
  have HI := Lib.hid hI
  have HS := Lib.hid hs
  have HBD := Lib.hid hbd
  have HL := Lib.hid hl
  clear h hI hs hbd hl
  go_enter Tryz.func110, Tryz.ntmps110
  go_wp2_with fail
  go_at_call 161
  refine (mapb_spec A n c l _ HI.out hn HBD.out).mono ?_
  rintro e w1 ⟨A1, c1, rfl, hO, hb⟩
  have HM1 := Lib.hid (HM.out.fresh hb 0)
  have HO1 := Lib.hid hO
  have HB1 := Lib.hid hb
  clear hO hb
  have HP := Lib.hid (puts_t0 (M := M) (A := A1) (n := n) (c := c1) (boolv_ok HL.out) (e := 26) (by unfold TyOk; omega) (fun v hv => by obtain ⟨x, _, rfl⟩ := List.mem_map.1 hv; rfl))
  go_wp2_with fail
  go_at_call 156
  refine (vector_spec M fl b ((26 : Nat) : Int) 0 A1 n c1 (l.map boolV) (bVec 36 true false (l.map boolV) b.b).1 (bVec 36 true false (l.map boolV) b.b).2 w1 _ HM1.out HO1.out.is (fun ad e => ⟨(HO1.out.addr ad e).2.2, newO_new (HO1.out.addr ad e).2.1⟩) HS.out HP.out).mono ?_
  rintro e w2 hR
  obtain rfl := hR.1
  have HR := Lib.hid (BTo.from_fresh HB1.out hR)
  clear hR
  go_wp2_with fail
  go_end0
  exact HR.out
end Go.Proofs.YtfoifdoaleaekaaGreat
