/-
  Package build: a map is written, once its keys' vector is known.
  Package build: the vector of keys is kept; the append of a value as a step; table in plain terms.
-/
import Derived.Test.YtfoifdoaleaekaaGreatQg34
namespace Go.Proofs.YtfoifdoaleaekaaGreat
open Go.RowKit Go.Acc
theorem to_cell {I : Nat → Prop} {w w' : World} {o o' : Nat → Nat} (h : To I w o w' o') {p : Addr} {v : Value} (hc : w.cell? p = some v) (hI : ¬ I (o p.block)) : w'.cell? p = some v :=
  (h.fr.cell (lt_of_cell hc) hI).trans hc
set_option maxRecDepth 100000 in
set_option maxHeartbeats 4000000 in
theorem table1_spec (M : Bp) (fl : Int) (b : Bd) (kv : Bv) (i bx bi bv : Nat) (A : Option Addr) (n c : Nat) (vs : List Bv) (w : World) (o : Nat → Nat) (h : BM M fl w o b) (hx : Blk w bx 122 #[.pointer (some ⟨M.β, 0, none⟩)]) (hi : Blk w bi 3 #[.int .i64 (i : Int)]) (hv' : Blk w bv 160 #[.slice A n c]) (hox : o bx = 0) (hoi : o bi ≠ 1) (hov : o bv = 0)
    (hv : IsV w A n (vs.map vv)) (ho : ∀ ad, A = some ad → ad.block < w.heap.size ∧ o ad.block = 0) (hki : b.vals[i]? = some kv) (hs : b.s.length < 65536) (hok : VecOk vs b.b) (hkt : kv.t = 14) (hkw : isW (kv.w : Int) = true) (hkf : Fit b.b.length kv) :
    Calls Tryz.prog 225 #[.pointer (some ⟨bx, 0, none⟩), .pointer (some ⟨bi, 0, none⟩), .pointer (some ⟨bv, 0, none⟩)] w (BTo M fl { b with b := (mapB kv vs b.b).1, s := b.s ++ [(mapB kv vs b.b).2] } w o) := by
  obtain ⟨A8, m8, c8, hb8, ho8, hof8, hoβ⟩ := h.head
  have hn8 : b.vals.length = m8 := by have := ho8.is.1; simpa using this
  have hin : i < m8 := by have := (List.getElem?_eq_some_iff.1 hki).1; omega
  obtain ⟨g, off, kv', e8, hkv', xa, xb, xc⟩ := isv_bv ho8.is hin
  obtain rfl : kv = kv' := by rw [hki] at hkv'; injection hkv'
  subst e8
  have hog : o g = 8 := hof8 _ rfl
  have hA := (Below.refl w.heap.size w).alloc (Nat.le_refl _) (.cells #[.int .i64 0, .int .i64 0, .int .u64 0] 185)
  have hAD := hA.drew
  have hM0 := h.fresh hAD 9
  have HX0 := Lib.hid (show Blk (w.alloc (.cells #[.int .i64 0, .int .i64 0, .int .u64 0] 185)).drew w.heap.size 185 #[.int .i64 0, .int .i64 0, .int .u64 0] from Blk.new _ _ _)
  have HO0 := Lib.hid (show newO o w.heap.size 9 w.heap.size = 9 from newO_new (Nat.le_refl _))
  have HT0 := Lib.hid (To.fresh Bld hAD o 9)
  have HM := Lib.hid hM0
  have HS := Lib.hid hs
  have HBX := Lib.hid (hx.pure hAD)
  have HBB := Lib.hid (hx.pure ((Below.refl w.heap.size w).drew))
  have HOW := Lib.hid (And.intro hox (And.intro hoi (And.intro hov (And.intro hoβ hog))))
  have HMB := Lib.hid h.drew
  have HPB := Lib.hid (mput_spec M.bb n c A vs kv b.b w.drew o h.drew.buf (hv.pure (Below.refl w.heap.size w).drew) (fun ad e => ⟨(ho ad e).1, by rw [(ho ad e).2]; omega⟩) hok hkt hkw hkf)
  have HP := Lib.hid (mput_spec M.bb n c A vs kv b.b (w.alloc (.cells #[.int .i64 0, .int .i64 0, .int .u64 0] 185)).drew (newO o w.heap.size 9) hM0.buf (hv.pure hAD) (fun ad e => ⟨Nat.lt_of_lt_of_le (ho ad e).1 hAD.size, by rw [newO_old (ho ad e).1, (ho ad e).2]; omega⟩) hok hkt hkw hkf)
  have x0 : w.cell? ⟨bx, 0, none⟩ = some (.pointer (some ⟨M.β, 0, none⟩)) := hx.cell 0
  have x1 : w.cell? ⟨bi, 0, none⟩ = some (.int .i64 (i : Int)) := hi.cell 0
  have x3 : w.cell? ⟨bv, 0, none⟩ = some (.slice A n c) := hv'.cell 0
  have x4 : w.cell? ⟨M.β, 0, none⟩ = some (.pointer (some ⟨M.bb, 0, none⟩)) := hb8.cell 0
  have x8 : w.cell? ⟨M.β, 8, none⟩ = some (.slice (some ⟨g, off, none⟩) m8 c8) := hb8.cell 8
  have n0 : bx ≠ w.heap.size := Nat.ne_of_lt (lt_of_cell x0)
  have n0_ : bx < w.heap.size := lt_of_cell x0
  have n1 : bi ≠ w.heap.size := Nat.ne_of_lt (lt_of_cell x1)
  have n1_ : bi < w.heap.size := lt_of_cell x1
  have n3 : bv ≠ w.heap.size := Nat.ne_of_lt (lt_of_cell x3)
  have n3_ : bv < w.heap.size := lt_of_cell x3
  have n4 : M.β ≠ w.heap.size := Nat.ne_of_lt (lt_of_cell x4)
  have n4_ : M.β < w.heap.size := lt_of_cell x4
  have n8 : M.β ≠ w.heap.size := Nat.ne_of_lt (lt_of_cell x8)
  have n8_ : M.β < w.heap.size := lt_of_cell x8
  have na : g ≠ w.heap.size := Nat.ne_of_lt (lt_of_cell xa)
  have na_ : g < w.heap.size := lt_of_cell xa
  have nb : g ≠ w.heap.size := Nat.ne_of_lt (lt_of_cell xb)
  have nb_ : g < w.heap.size := lt_of_cell xb
  have nc : g ≠ w.heap.size := Nat.ne_of_lt (lt_of_cell xc)
  have nc_ : g < w.heap.size := lt_of_cell xc
  have hi0 : (0 : Int) ≤ (i : Int) := by omega
  have hin' : (i : Int) < (m8 : Int) := by omega
  obtain ⟨r, hr⟩ : ∃ r, mapB kv vs b.b = r := ⟨_, rfl⟩
  rw [hr] at HP HPB ⊢
  obtain ⟨l', v'⟩ := r
  clear h hx hi hv' hox hoi hov hv ho hki hs hok hkt hkw hkf hb8 ho8 hof8 hoβ hog hkv' hA hAD hM0 hr hn8
  go_enter Tryz.func225, Tryz.ntmps225
  go_wp2_with fail
  go_cut [3, 4] (fun u4 u5 wx => ∃ wy, wy = wx ∧ u5 = .int .i64 0 ∧ ∃ b4 o4, u4 = .pointer (some ⟨b4, 0, none⟩) ∧ BM M fl wx o4 { b with b := l' } ∧ Blk wx bx 122 #[.pointer (some ⟨M.β, 0, none⟩)] ∧ o4 bx = 0 ∧ Blk wx b4 185 #[.int .i64 (v'.t : Int), .int .i64 (v'.w : Int), .int .u64 (v'.n : Int)] ∧ o4 b4 = 9 ∧ To Bld w o wx o4)
  case first =>
    go_region_held3 (fun w' => w'.cell? ⟨bx, 0, none⟩ = some (.pointer (some ⟨M.β, 0, none⟩)) ∧ w'.cell? ⟨bi, 0, none⟩ = some (.int .i64 (i : Int)) ∧ w'.cell? ⟨bv, 0, none⟩ = some (.slice A n c) ∧ w'.cell? ⟨M.β, 0, none⟩ = some (.pointer (some ⟨M.bb, 0, none⟩)) ∧ w'.cell? ⟨M.β, 8, none⟩ = some (.slice (some ⟨g, off, none⟩) m8 c8) ∧ w'.cell? ⟨g, off + i * 3, none⟩ = some (.int .i64 (kv.t : Int)) ∧ w'.cell? ⟨g, off + i * 3 + 1, none⟩ = some (.int .i64 (kv.w : Int)) ∧ w'.cell? ⟨g, off + i * 3 + 2, none⟩ = some (.int .u64 (kv.n : Int))) (first | with_reducible exact ⟨x0, x1, x3, x4, x8, xa, xb, xc⟩ | with_reducible exact ⟨kdrew x0, kdrew x1, kdrew x3, kdrew x4, kdrew x8, kdrew xa, kdrew xb, kdrew xc⟩ | with_reducible exact ⟨kalloc _ x0, kalloc _ x1, kalloc _ x3, kalloc _ x4, kalloc _ x8, kalloc _ xa, kalloc _ xb, kalloc _ xc⟩ | with_reducible exact ⟨kdrew (kalloc _ x0), kdrew (kalloc _ x1), kdrew (kalloc _ x3), kdrew (kalloc _ x4), kdrew (kalloc _ x8), kdrew (kalloc _ xa), kdrew (kalloc _ xb), kdrew (kalloc _ xc)⟩ | with_reducible exact ⟨y0, y1, y3, y4, y8, ya, yb, yc⟩ | with_reducible exact ⟨kalloc _ y0, kalloc _ y1, kalloc _ y3, kalloc _ y4, kalloc _ y8, kalloc _ ya, kalloc _ yb, kalloc _ yc⟩ | with_reducible exact ⟨kset3 (kalloc _ y0) p0, kset3 (kalloc _ y1) p1, kset3 (kalloc _ y3) p3, kset3 (kalloc _ y4) p4, kset3 (kalloc _ y8) p8, kset3 (kalloc _ ya) pa, kset3 (kalloc _ yb) pb, kset3 (kalloc _ yc) pc⟩ | with_reducible exact ⟨kset3 y0 n0, kset3 y1 n1, kset3 y3 n3, kset3 y4 n4, kset3 y8 n8, kset3 ya na, kset3 yb nb, kset3 yc nc⟩) (first | (go_at_call 226; (with_reducible refine HP.out.mono ?_); rintro e W1 ⟨rfl, o1, hB1, hT1⟩; have hM1 := HM.out.buf_ hT1 hB1; have y0 : W1.cell? ⟨bx, 0, none⟩ = some (.pointer (some ⟨M.β, 0, none⟩)) := to_cell hT1 (kalloc _ x0) (by rw [newO_old n0_, HOW.out.1]; omega); have y1 : W1.cell? ⟨bi, 0, none⟩ = some (.int .i64 (i : Int)) := to_cell hT1 (kalloc _ x1) (by rw [newO_old n1_]; exact HOW.out.2.1); have y3 : W1.cell? ⟨bv, 0, none⟩ = some (.slice A n c) := to_cell hT1 (kalloc _ x3) (by rw [newO_old n3_, HOW.out.2.2.1]; omega); have y4 : W1.cell? ⟨M.β, 0, none⟩ = some (.pointer (some ⟨M.bb, 0, none⟩)) := to_cell hT1 (kalloc _ x4) (by rw [newO_old n4_, HOW.out.2.2.2.1]; omega); have y8 : W1.cell? ⟨M.β, 8, none⟩ = some (.slice (some ⟨g, off, none⟩) m8 c8) := to_cell hT1 (kalloc _ x8) (by rw [newO_old n8_, HOW.out.2.2.2.1]; omega); have ya : W1.cell? ⟨g, off + i * 3, none⟩ = some (.int .i64 (kv.t : Int)) := to_cell hT1 (kalloc _ xa) (by rw [newO_old na_, HOW.out.2.2.2.2]; omega); have yb : W1.cell? ⟨g, off + i * 3 + 1, none⟩ = some (.int .i64 (kv.w : Int)) := to_cell hT1 (kalloc _ xb) (by rw [newO_old nb_, HOW.out.2.2.2.2]; omega); have yc : W1.cell? ⟨g, off + i * 3 + 2, none⟩ = some (.int .u64 (kv.n : Int)) := to_cell hT1 (kalloc _ xc) (by rw [newO_old nc_, HOW.out.2.2.2.2]; omega); have hX1 := HX0.out.to_ hT1 (by rw [HO0.out]; omega); have f0 := hX1.frozen 0; have f1 := hX1.frozen 1; have f2 := hX1.frozen 2; have z0 : W1.cell? ⟨w.heap.size, 0, none⟩ = some (.int .i64 0) := hX1.cell 0; have z1 : W1.cell? ⟨w.heap.size, 1, none⟩ = some (.int .i64 0) := hX1.cell 1; have z2 : W1.cell? ⟨w.heap.size, 2, none⟩ = some (.int .u64 0) := hX1.cell 2; have HO1 := Lib.hid (show o1 w.heap.size = 9 from (hT1.ow _ HX0.out.lt).trans HO0.out); have HX1 := Lib.hid hX1; have HM1 := Lib.hid hM1; have HB1 := Lib.hid (HBX.out.to_ hT1 (by rw [newO_old n0_, HOW.out.1]; omega)); have HOB := Lib.hid (show o1 bx = 0 from (hT1.ow _ HBX.out.lt).trans ((newO_old n0_).trans HOW.out.1)); have HT1 := Lib.hid (HT0.out.trans (hT1.mono fun _ h => bld_1 h)); clear hB1 hT1 hM1 hX1) | (go_at_call 226; (with_reducible refine HPB.out.mono ?_); rintro e W1 ⟨rfl, o1, hB1, hT1⟩; have hM1 := HMB.out.buf_ hT1 hB1; have y0 : W1.cell? ⟨bx, 0, none⟩ = some (.pointer (some ⟨M.β, 0, none⟩)) := to_cell hT1 x0 (by rw [HOW.out.1]; omega); have y1 : W1.cell? ⟨bi, 0, none⟩ = some (.int .i64 (i : Int)) := to_cell hT1 x1 (by exact HOW.out.2.1); have y3 : W1.cell? ⟨bv, 0, none⟩ = some (.slice A n c) := to_cell hT1 x3 (by rw [HOW.out.2.2.1]; omega); have y4 : W1.cell? ⟨M.β, 0, none⟩ = some (.pointer (some ⟨M.bb, 0, none⟩)) := to_cell hT1 x4 (by rw [HOW.out.2.2.2.1]; omega); have y8 : W1.cell? ⟨M.β, 8, none⟩ = some (.slice (some ⟨g, off, none⟩) m8 c8) := to_cell hT1 x8 (by rw [HOW.out.2.2.2.1]; omega); have ya : W1.cell? ⟨g, off + i * 3, none⟩ = some (.int .i64 (kv.t : Int)) := to_cell hT1 xa (by rw [HOW.out.2.2.2.2]; omega); have yb : W1.cell? ⟨g, off + i * 3 + 1, none⟩ = some (.int .i64 (kv.w : Int)) := to_cell hT1 xb (by rw [HOW.out.2.2.2.2]; omega); have yc : W1.cell? ⟨g, off + i * 3 + 2, none⟩ = some (.int .u64 (kv.n : Int)) := to_cell hT1 xc (by rw [HOW.out.2.2.2.2]; omega); have p0 : bx ≠ W1.heap.size := Nat.ne_of_lt (lt_of_cell y0); have p1 : bi ≠ W1.heap.size := Nat.ne_of_lt (lt_of_cell y1); have p3 : bv ≠ W1.heap.size := Nat.ne_of_lt (lt_of_cell y3); have p4 : M.β ≠ W1.heap.size := Nat.ne_of_lt (lt_of_cell y4); have p8 : M.β ≠ W1.heap.size := Nat.ne_of_lt (lt_of_cell y8); have pa : g ≠ W1.heap.size := Nat.ne_of_lt (lt_of_cell ya); have pb : g ≠ W1.heap.size := Nat.ne_of_lt (lt_of_cell yb); have pc : g ≠ W1.heap.size := Nat.ne_of_lt (lt_of_cell yc); have HM1 := Lib.hid hM1; have HB1 := Lib.hid (HBB.out.to_ hT1 (by rw [HOW.out.1]; omega)); have HOB := Lib.hid (show o1 bx = 0 from (hT1.ow _ HBB.out.lt).trans HOW.out.1); have HT1 := Lib.hid (hT1.from_drew.mono fun _ h => bld_1 h); clear hB1 hT1 hM1))
    all_goals
      go_wp2_with fail
      go_meet
    all_goals
      first
      | exact ⟨_, rfl, rfl, w.heap.size, o1, rfl, HM1.out.to_ (to9 HO1.out _ _ _) bld_9, HB1.out.to_ (to9 HO1.out _ _ _) (by rw [HOB.out]; decide), HOB.out, ((HX1.out.set_ 0 (.int .i64 (v'.t : Int))).set_ 1 (.int .i64 (v'.w : Int))).set_ 2 (.int .u64 (v'.n : Int)), HO1.out, ((HT1.out.set_new (p := ⟨w.heap.size, 0, none⟩) (Nat.le_refl _) _).set_new (p := ⟨w.heap.size, 1, none⟩) (Nat.le_refl _) _).set_new (p := ⟨w.heap.size, 2, none⟩) (Nat.le_refl _) _⟩
      | exact ⟨_, rfl, rfl, W1.heap.size, newO o1 W1.heap.size 9, rfl, HM1.out.fresh ((Below.refl W1.heap.size W1).alloc (Nat.le_refl _) _) 9, HB1.out.pure ((Below.refl W1.heap.size W1).alloc (Nat.le_refl _) _), (newO_old HB1.out.lt).trans HOB.out, Blk.new _ _ _, newO_new (Nat.le_refl _), HT1.out.trans (To.fresh Bld ((Below.refl W1.heap.size W1).alloc (Nat.le_refl _) _) o1 9)⟩
  case rest =>
    obtain ⟨w4, rfl, rfl, b4, o4, rfl, hM4, hC4, hC4o, hX4, hO4, hT4⟩ := hcut
    have HM4 := Lib.hid hM4
    have HC4 := Lib.hid hC4
    have HC4O := Lib.hid hC4o
    have HX4 := Lib.hid hX4
    have HO4 := Lib.hid hO4
    have HT4 := Lib.hid hT4
    clear hM4 hC4 hC4o hX4 hO4 hT4 x0 n0 n0_ x1 n1 n1_ x3 n3 n3_ x4 n4 n4_ x8 n8 n8_ xa na na_ xb nb nb_ xc nc nc_ HM HP HPB HMB HX0 HO0 HT0 HBX HBB HOW
    have x0 : w4.cell? ⟨bx, 0, none⟩ = some (.pointer (some ⟨M.β, 0, none⟩)) := HC4.out.cell 0
    go_wp2_with fail
    go_at_call 127
    refine (fail_ok HM4.out).mono ?_
    rintro e w5 ⟨rfl, o5, hM5, hT5⟩
    have HM5 := Lib.hid hM5
    have HC5 := Lib.hid (HC4.out.to_ hT5 (by rw [HC4O.out]; exact bld_0))
    have HC5O := Lib.hid (show o5 bx = 0 from (hT5.ow _ HC4.out.lt).trans HC4O.out)
    have HX5 := Lib.hid (HX4.out.to_ hT5 (by rw [HO4.out]; exact fun h => bld_9 9 h rfl))
    have HO5 := Lib.hid (show o5 b4 = 9 from (hT5.ow _ HX4.out.lt).trans HO4.out)
    have HT5 := Lib.hid (HT4.out.trans hT5)
    clear hM5 hT5 x0
    have x0 : w5.cell? ⟨bx, 0, none⟩ = some (.pointer (some ⟨M.β, 0, none⟩)) := HC5.out.cell 0
    have v0 : w5.cell? ⟨b4, 0, none⟩ = some (.int .i64 (v'.t : Int)) := HX5.out.cell 0
    have v1 : w5.cell? ⟨b4, 1, none⟩ = some (.int .i64 (v'.w : Int)) := HX5.out.cell 1
    have v2 : w5.cell? ⟨b4, 2, none⟩ = some (.int .u64 (v'.n : Int)) := HX5.out.cell 2
    go_wp2_with fail
    go_region_held3 (fun w' => w'.cell? ⟨bx, 0, none⟩ = some (.pointer (some ⟨M.β, 0, none⟩)) ∧ w'.cell? ⟨b4, 0, none⟩ = some (.int .i64 (v'.t : Int)) ∧ w'.cell? ⟨b4, 1, none⟩ = some (.int .i64 (v'.w : Int)) ∧ w'.cell? ⟨b4, 2, none⟩ = some (.int .u64 (v'.n : Int))) (first | with_reducible exact ⟨x0, v0, v1, v2⟩ | with_reducible exact ⟨kdrew x0, kdrew v0, kdrew v1, kdrew v2⟩ | with_reducible exact ⟨y0, y1, y2, y3⟩) (first | (go_at_call 173; (with_reducible refine (pushp_spec M fl { b with b := l' } v' _ o5 HM5.out.drew HS.out).mono ?_); rintro e w6 ⟨rfl, o6, hM6, hT6⟩; have y0 : w6.cell? ⟨bx, 0, none⟩ = some (.pointer (some ⟨M.β, 0, none⟩)) := (HC5.out.to_ hT6.from_drew (by rw [HC5O.out]; exact bld_0)).cell 0; have hX6 := HX5.out.to_ hT6.from_drew (by rw [HO5.out]; exact fun h => bld_9 9 h rfl); have y1 : w6.cell? ⟨b4, 0, none⟩ = some (.int .i64 (v'.t : Int)) := hX6.cell 0; have y2 : w6.cell? ⟨b4, 1, none⟩ = some (.int .i64 (v'.w : Int)) := hX6.cell 1; have y3 : w6.cell? ⟨b4, 2, none⟩ = some (.int .u64 (v'.n : Int)) := hX6.cell 2; have HM6 := Lib.hid hM6; have HT6 := Lib.hid (HT5.out.trans hT6.from_drew); clear hM6 hT6 hX6))
    go_wp2_with fail
    go_end0
    exact ⟨rfl, o6, HM6.out, HT6.out⟩
end Go.Proofs.YtfoifdoaleaekaaGreat

namespace Go.Proofs.YtfoifdoaleaekaaGreat
open Go.RowKit Go.Acc
theorem step_appV {ops : Array Oper} {o : Oper} {a : Act} {w : World} {K : Act → World → Prop} {Q : Exit → Act → World → Prop} {E : Prop} (hgd : o.guard = none) (s x : Operand)
    (ho : o.op = .call { callee := .builtin .append, args := #[s, x], argTypes := #[160, 160] })
    (B : Nat) (A : Option Addr) (n c : Nat) (l : List V3) (hs : a.eval s = .slice A n c) (hown : OwnV w B A n c l)
    (A2 : Option Addr) (m d : Nat) (l2 : List V3) (hx : a.eval x = .slice A2 m d) (hr : IsV w A2 m l2)
    (hbytes : n + m ≤ 1099511627776) (hbase : B ≤ w.heap.size)
    (h : ∀ A' c' w', OwnV w' B A' (n + m) c' (l ++ l2) → Fr (fun k => ∃ ad, A = some ad ∧ k = ad.block) w w' → (A'.map (·.block) = A.map (·.block) ∨ A'.map (·.block) = some w.heap.size) → K (a.put o.dst (.slice A' (n + m) c')) w') :
    if Region.wanted o (yielded ops a.tmps) = true then Oper.wp Tryz.prog o a w K Q else E := by
  have hw : Region.wanted o (yielded ops a.tmps) = true := by simp [Region.wanted, hgd]
  rw [if_pos hw]
  obtain ⟨i, hi', hz, hsize, hby⟩ := info_parts info_v
  have e2 : n + m ≤ maxLen := by simp only [maxLen]; omega
  obtain ⟨v', w', hrun, h2, h3, h4⟩ := run_append_rd (P := Tryz.prog) w B 160 o.type 185 i _ 3 24 Tryz.underlying160 hi' hz hsize hby rfl (by omega) (.slice A n c) n (l.flatMap vc) hown.2 A2 m d (l2.flatMap vc) (by rw [fm_length vc_len, hr.1]) hr.2 (fm_one vc_one l2) e2 (by omega) hbase
  obtain ⟨A', c', rfl, ho'⟩ := Own.mk vc_len (by omega) (l := l ++ l2) h2 List.flatMap_append.symm
  have hk := h A' c' w' ho' ((Fr.of_grown h3).mono fun i _ hi => by
    cases A with
    | none => simp [Value.ownBlock] at hi
    | some ad => simp [Value.ownBlock] at hi; exact ⟨ad, rfl, hi⟩) (by
    rcases h4 with h4 | h4
    · left; revert h4; cases A' <;> cases A <;> simp [Value.ownBlock]
    · right; revert h4; cases A' <;> simp [Value.ownBlock])
  clear h ho' h2 h3 h4
  unfold Oper.wp
  simp only [execOp, ho, resolve, invoke, builtin, Sem.run_bind, Sem.run_pure, Result.andThen_ok, List.map_toArray, List.map_cons, List.map_nil, hs, hx, hrun]
  exact hk
theorem head_app {M : Bp} {fl : Int} {w W0 W1 : World} {o : Nat → Nat} {vals : List Bv} {A A' : Option Addr} {n c c' : Nat} {v : Bv} (hb : Blk w M.β 164 #[.pointer (some ⟨M.bb, 0, none⟩), .pointer (some ⟨M.sb, 0, none⟩), .int .i64 0, .int .i64 fl, .pointer (some ⟨M.kb, 0, none⟩), .pointer (some ⟨M.tb, 0, none⟩), .pointer (some ⟨M.lb, 0, none⟩), .map (some M.mb), .slice A n c, .bool true]) (h0 : OwnV w 0 A n c (vals.map vv)) (hof : Of o A 8) (hβ : o M.β = 2) (hW : Below w.heap.size w W0)
    (hown : OwnV W1 0 A' (n + 1) c' (vals.map vv ++ [vv v])) (hfr : Fr (fun k => ∃ ad, A = some ad ∧ k = ad.block) W0 W1) (hat : A'.map (·.block) = A.map (·.block) ∨ A'.map (·.block) = some W0.heap.size) :
    HeadO M fl (W1.setCell ⟨M.β, 8, none⟩ (.slice A' (n + 1) c')) (newO o w.heap.size 8) (vals ++ [v]) ∧ To (fun i => i = 2 ∨ i = 8) w o (W1.setCell ⟨M.β, 8, none⟩ (.slice A' (n + 1) c')) (newO o w.heap.size 8) := by
  have hne : ∀ ad, A = some ad → M.β ≠ ad.block := fun ad e h => by
    have h1 := hof ad e
    rw [← h, hβ] at h1
    omega
  have hb1 : Blk W1 M.β 164 #[.pointer (some ⟨M.bb, 0, none⟩), .pointer (some ⟨M.sb, 0, none⟩), .int .i64 0, .int .i64 fl, .pointer (some ⟨M.kb, 0, none⟩), .pointer (some ⟨M.tb, 0, none⟩), .pointer (some ⟨M.lb, 0, none⟩), .map (some M.mb), .slice A n c, .bool true] := (hb.pure hW).fr hfr (by rintro ⟨ad, e, h⟩; exact hne ad e h)
  have hof' : Of (newO o w.heap.size 8) A' 8 := by
    intro ad e
    subst e
    rcases hat with e | e
    · cases A with
      | none => cases e
      | some a0 =>
        injection e with e
        have e : ad.block = a0.block := e
        rw [e, newO_old (h0.addr a0 rfl).2.2]
        exact hof a0 rfl
    · injection e with e
      have e : ad.block = W0.heap.size := e
      rw [e, newO_new hW.size]
  have hβ' : newO o w.heap.size 8 M.β = 2 := by rw [newO_old hb.lt]; exact hβ
  refine ⟨⟨A', n + 1, c', hb1.set_ 8 (.slice A' (n + 1) c'), ?_, hof', hβ'⟩, ?_⟩
  · rw [List.map_append]
    refine hown.fr (Fr.setCell (S := fun k => k = M.β) (Fr.refl _ W1) (fun _ => rfl) _) ?_
    intro ad e h
    have h1 := hof' ad e
    have h2 : ad.block = M.β := h
    rw [h2, hβ'] at h1
    omega
  · have t1 : To (fun i => i = 2 ∨ i = 8) w o W1 (newO o w.heap.size 8) := by
      refine ⟨(Fr.of_below hW _).trans hfr ?_, fun k hk => newO_old hk⟩
      rintro k _ ⟨ad, e, rfl⟩
      exact .inr (hof ad e)
    exact t1.trans (To.of_fr0 (Fr.setCell (S := fun k => k = M.β) (Fr.refl _ W1) (p := ⟨M.β, 8, none⟩) (fun _ => rfl) _) (by rintro k _ rfl; exact .inl hβ'))
def Bd.table (f : Nat) (list : List UInt8) (ks vs : List Bv) (b : Bd) : Bd :=
  match (if onF f 4 = true then getP b.lists list else none) with
  | some i => let x := mapB (b.vals.getD i ⟨0, 0, 0⟩) vs b.b; { b with b := x.1, s := b.s ++ [x.2] }
  | none =>
    let y := bVec 14 true false ks b.b
    let x := mapB y.2 vs y.1
    { b with b := x.1, s := b.s ++ [x.2], vals := b.vals ++ [y.2], lists := putP b.lists list b.vals.length }
theorem endMap_table (f : Nat) (keys : List (List UInt8)) (start : Nat) (b : Bd) : b.endMap f keys start = Bd.table f (listOf keys) (evens (b.s.drop start)) (odds (b.s.drop start)) { b with s := b.s.take start } := rfl
theorem table_eq (f : Nat) (list : List UInt8) (ks vs : List Bv) (b : Bd) (g : Option Nat) (q : Bool) (hg : getP b.lists list = g) (hq : onF f 4 = q) : Bd.table f list ks vs b = match (if q = true then g else none) with
  | some i => let x := mapB (b.vals.getD i ⟨0, 0, 0⟩) vs b.b; { b with b := x.1, s := b.s ++ [x.2] }
  | none =>
    let y := bVec 14 true false ks b.b
    let x := mapB y.2 vs y.1
    { b with b := x.1, s := b.s ++ [x.2], vals := b.vals ++ [y.2], lists := putP b.lists list b.vals.length } := by
  unfold Bd.table
  rw [hg, hq]
structure TabOk (list : List UInt8) (ks vs : List Bv) (b : Bd) : Prop where
  kok : VecOk ks b.b
  kel : ∀ v ∈ ks, v.t = 4
  vok : VecOk vs b.b
  vok2 : VecOk vs (bVec 14 true false ks b.b).1
  kw : isW ((bVec 14 true false ks b.b).2.w : Int) = true
  kfit : Fit (bVec 14 true false ks b.b).1.length (bVec 14 true false ks b.b).2
  had : ∀ i, getP b.lists list = some i → ∃ kv, b.vals[i]? = some kv ∧ kv.t = 14 ∧ isW (kv.w : Int) = true ∧ Fit b.b.length kv
  ll : b.lists.length ≤ 1048575
  vl : b.vals.length ≤ 1048576
  st : b.s.length < 65536
end Go.Proofs.YtfoifdoaleaekaaGreat
