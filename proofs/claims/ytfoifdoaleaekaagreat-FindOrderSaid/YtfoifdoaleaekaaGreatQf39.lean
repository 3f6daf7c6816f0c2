/-
  Package build: the vector of keys is kept; the append of a value as a step; table in plain terms.
  Package build: table.
-/
import Derived.Test.YtfoifdoaleaekaaGreatQf31
import Derived.Test.YtfoifdoaleaekaaGreatQf34
namespace Go.Proofs.YtfoifdoaleaekaaGreat
open Go.RowKit Go.Acc
theorem to_cell {I : Nat → Prop} {w w' : World} {o o' : Nat → Nat} (h : To I w o w' o') {p : Addr} {v : Value} (hc : w.cell? p = some v) (hI : ¬ I (o p.block)) : w'.cell? p = some v :=
  (h.fr.cell (lt_of_cell hc) hI).trans hc
set_option maxRecDepth 100000 in
set_option maxHeartbeats 4000000 in
theorem table1_spec (M : Bp) (fl : Int) (b : Bd) (kv : Bv) (i bx bi bv : Nat) (A : Option Addr) (n c : Nat) (vs : List Bv) (w : World) (o : Nat → Nat) (h : BM M fl w o b) (hx : Blk w bx 122 #[.pointer (some ⟨M.β, 0, none⟩)]) (hi : Blk w bi 3 #[.int .i64 (i : Int)]) (hv' : Blk w bv 160 #[.slice A n c]) (hox : o bx = 0) (hoi : o bi ≠ 1) (hov : o bv = 0)
    (hv : IsV w A n (vs.map vv)) (ho : ∀ ad, A = some ad → ad.block < w.heap.size ∧ o ad.block = 0) (hki : b.vals[i]? = some kv) (hs : b.s.length < 65536) (hok : VecOk vs b.b) (hkt : kv.t = 14) (hkw : isW (kv.w : Int) = true) (hkf : Fit b.b.length kv) :
    Calls Tryz.prog 225 #[.pointer (some ⟨bx, 0, none⟩), .pointer (some ⟨bi, 0, none⟩), .pointer (some ⟨bv, 0, none⟩)] w (BTo M fl { b with b := (mapB kv vs b.b).1, s := b.s ++ [(mapB kv vs b.b).2] } w o) := by
  obtain ⟨A8, m8, c8, hb8, ho8, hof8, hoβ⟩ := h.head
  have hn8 : b.vals.length = m8 := by have := ho8.is.1; simpa using this
  have hin : i < m8 := by have := (List.getElem?_eq_some_iff.1 hki).1; omega
  obtain ⟨g, off, kv', e8, hkv', xa, xb, xc⟩ := isv_bv ho8.is hin
  obtain rfl : kv = kv' := by rw [hki] at hkv'; injection hkv'
  subst e8
  have hog : o g = 8 := hof8 _ rfl
  have hA := (Below.refl w.heap.size w).alloc (Nat.le_refl _) (.cells #[.int .i64 0, .int .i64 0, .int .u64 0] 185)
  have hAD := hA.drew
  have hM0 := h.fresh hAD 9
  have HX0 := Lib.hid (show Blk (w.alloc (.cells #[.int .i64 0, .int .i64 0, .int .u64 0] 185)).drew w.heap.size 185 #[.int .i64 0, .int .i64 0, .int .u64 0] from Blk.new _ _ _)
  have HO0 := Lib.hid (show newO o w.heap.size 9 w.heap.size = 9 from newO_new (Nat.le_refl _))
  have HT0 := Lib.hid (To.fresh Bld hAD o 9)
  have HM := Lib.hid hM0
  have HS := Lib.hid hs
  have HBX := Lib.hid (hx.pure hAD)
  have HBB := Lib.hid (hx.pure ((Below.refl w.heap.size w).drew))
  have HOW := Lib.hid (And.intro hox (And.intro hoi (And.intro hov (And.intro hoβ hog))))
  have HMB := Lib.hid h.drew
  have HPB := Lib.hid (mput_spec M.bb n c A vs kv b.b w.drew o h.drew.buf (hv.pure (Below.refl w.heap.size w).drew) (fun ad e => ⟨(ho ad e).1, by rw [(ho ad e).2]; omega⟩) hok hkt hkw hkf)
  have HP := Lib.hid (mput_spec M.bb n c A vs kv b.b (w.alloc (.cells #[.int .i64 0, .int .i64 0, .int .u64 0] 185)).drew (newO o w.heap.size 9) hM0.buf (hv.pure hAD) (fun ad e => ⟨Nat.lt_of_lt_of_le (ho ad e).1 hAD.size, by rw [newO_old (ho ad e).1, (ho ad e).2]; omega⟩) hok hkt hkw hkf)
  have x0 : w.cell? ⟨bx, 0, none⟩ = some (.pointer (some ⟨M.β, 0, none⟩)) := hx.cell 0
  have x1 : w.cell? ⟨bi, 0, none⟩ = some (.int .i64 (i : Int)) := hi.cell 0
  have x3 : w.cell? ⟨bv, 0, none⟩ = some (.slice A n c) := hv'.cell 0
  have x4 : w.cell? ⟨M.β, 0, none⟩ = some (.pointer (some ⟨M.bb, 0, none⟩)) := hb8.cell 0
  have x8 : w.cell? ⟨M.β, 8, none⟩ = some (.slice (some ⟨g, off, none⟩) m8 c8) := hb8.cell 8
  have n0 : bx ≠ w.heap.size := Nat.ne_of_lt (lt_of_cell x0)
  have n0_ : bx < w.heap.size := lt_of_cell x0
  have n1 : bi ≠ w.heap.size := Nat.ne_of_lt (lt_of_cell x1)
  have n1_ : bi < w.heap.size := lt_of_cell x1
  have n3 : bv ≠ w.heap.size := Nat.ne_of_lt (lt_of_cell x3)
  have n3_ : bv < w.heap.size := lt_of_cell x3
  have n4 : M.β ≠ w.heap.size := Nat.ne_of_lt (lt_of_cell x4)
  have n4_ : M.β < w.heap.size := lt_of_cell x4
  have n8 : M.β ≠ w.heap.size := Nat.ne_of_lt (lt_of_cell x8)
  have n8_ : M.β < w.heap.size := lt_of_cell x8
  have na : g ≠ w.heap.size := Nat.ne_of_lt (lt_of_cell xa)
  have na_ : g < w.heap.size := lt_of_cell xa
  have nb : g ≠ w.heap.size := Nat.ne_of_lt (lt_of_cell xb)
  have nb_ : g < w.heap.size := lt_of_cell xb
  have nc : g ≠ w.heap.size := Nat.ne_of_lt (lt_of_cell xc)
  have nc_ : g < w.heap.size := lt_of_cell xc
  have hi0 : (0 : Int) ≤ (i : Int) := by omega
  have hin' : (i : Int) < (m8 : Int) := by omega
  obtain ⟨r, hr⟩ : ∃ r, mapB kv vs b.b = r := ⟨_, rfl⟩
  rw [hr] at HP HPB ⊢
  obtain ⟨l', v'⟩ := r
  clear h hx hi hv' hox hoi hov hv ho hki hs hok hkt hkw hkf hb8 ho8 hof8 hoβ hog hkv' hA hAD hM0 hr hn8
  go_enter Tryz.func225, Tryz.ntmps225
  go_wp2_with fail
  go_cut [3, 4] (fun u4 u5 wx => ∃ wy, wy = wx ∧ u5 = .int .i64 0 ∧ ∃ b4 o4, u4 = .pointer (some ⟨b4, 0, none⟩) ∧ BM M fl wx o4 { b with b := l' } ∧ Blk wx bx 122 #[.pointer (some ⟨M.β, 0, none⟩)] ∧ o4 bx = 0 ∧ Blk wx b4 185 #[.int .i64 (v'.t : Int), .int .i64 (v'.w : Int), .int .u64 (v'.n : Int)] ∧ o4 b4 = 9 ∧ To Bld w o wx o4)
  case first =>
    go_region_held3 (fun w' => w'.cell? ⟨bx, 0, none⟩ = some (.pointer (some ⟨M.β, 0, none⟩)) ∧ w'.cell? ⟨bi, 0, none⟩ = some (.int .i64 (i : Int)) ∧ w'.cell? ⟨bv, 0, none⟩ = some (.slice A n c) ∧ w'.cell? ⟨M.β, 0, none⟩ = some (.pointer (some ⟨M.bb, 0, none⟩)) ∧ w'.cell? ⟨M.β, 8, none⟩ = some (.slice (some ⟨g, off, none⟩) m8 c8) ∧ w'.cell? ⟨g, off + i * 3, none⟩ = some (.int .i64 (kv.t : Int)) ∧ w'.cell? ⟨g, off + i * 3 + 1, none⟩ = some (.int .i64 (kv.w : Int)) ∧ w'.cell? ⟨g, off + i * 3 + 2, none⟩ = some (.int .u64 (kv.n : Int))) (first | with_reducible exact ⟨x0, x1, x3, x4, x8, xa, xb, xc⟩ | with_reducible exact ⟨kdrew x0, kdrew x1, kdrew x3, kdrew x4, kdrew x8, kdrew xa, kdrew xb, kdrew xc⟩ | with_reducible exact ⟨kalloc _ x0, kalloc _ x1, kalloc _ x3, kalloc _ x4, kalloc _ x8, kalloc _ xa, kalloc _ xb, kalloc _ xc⟩ | with_reducible exact ⟨kdrew (kalloc _ x0), kdrew (kalloc _ x1), kdrew (kalloc _ x3), kdrew (kalloc _ x4), kdrew (kalloc _ x8), kdrew (kalloc _ xa), kdrew (kalloc _ xb), kdrew (kalloc _ xc)⟩ | with_reducible exact ⟨y0, y1, y3, y4, y8, ya, yb, yc⟩ | with_reducible exact ⟨kalloc _ y0, kalloc _ y1, kalloc _ y3, kalloc _ y4, kalloc _ y8, kalloc _ ya, kalloc _ yb, kalloc _ yc⟩ | with_reducible exact ⟨kset3 (kalloc _ y0) p0, kset3 (kalloc _ y1) p1, kset3 (kalloc _ y3) p3, kset3 (kalloc _ y4) p4, kset3 (kalloc _ y8) p8, kset3 (kalloc _ ya) pa, kset3 (kalloc _ yb) pb, kset3 (kalloc _ yc) pc⟩ | with_reducible exact ⟨kset3 y0 n0, kset3 y1 n1, kset3 y3 n3, kset3 y4 n4, kset3 y8 n8, kset3 ya na, kset3 yb nb, kset3 yc nc⟩) (first | (go_at_call 226; (with_reducible refine HP.out.mono ?_); rintro e W1 ⟨rfl, o1, hB1, hT1⟩; have hM1 := HM.out.buf_ hT1 hB1; have y0 : W1.cell? ⟨bx, 0, none⟩ = some (.pointer (some ⟨M.β, 0, none⟩)) := to_cell hT1 (kalloc _ x0) (by rw [newO_old n0_, HOW.out.1]; omega); have y1 : W1.cell? ⟨bi, 0, none⟩ = some (.int .i64 (i : Int)) := to_cell hT1 (kalloc _ x1) (by rw [newO_old n1_]; exact HOW.out.2.1); have y3 : W1.cell? ⟨bv, 0, none⟩ = some (.slice A n c) := to_cell hT1 (kalloc _ x3) (by rw [newO_old n3_, HOW.out.2.2.1]; omega); have y4 : W1.cell? ⟨M.β, 0, none⟩ = some (.pointer (some ⟨M.bb, 0, none⟩)) := to_cell hT1 (kalloc _ x4) (by rw [newO_old n4_, HOW.out.2.2.2.1]; omega); have y8 : W1.cell? ⟨M.β, 8, none⟩ = some (.slice (some ⟨g, off, none⟩) m8 c8) := to_cell hT1 (kalloc _ x8) (by rw [newO_old n8_, HOW.out.2.2.2.1]; omega); have ya : W1.cell? ⟨g, off + i * 3, none⟩ = some (.int .i64 (kv.t : Int)) := to_cell hT1 (kalloc _ xa) (by rw [newO_old na_, HOW.out.2.2.2.2]; omega); have yb : W1.cell? ⟨g, off + i * 3 + 1, none⟩ = some (.int .i64 (kv.w : Int)) := to_cell hT1 (kalloc _ xb) (by rw [newO_old nb_, HOW.out.2.2.2.2]; omega); have yc : W1.cell? ⟨g, off + i * 3 + 2, none⟩ = some (.int .u64 (kv.n : Int)) := to_cell hT1 (kalloc _ xc) (by rw [newO_old nc_, HOW.out.2.2.2.2]; omega); have hX1 := HX0.out.to_ hT1 (by rw [HO0.out]; omega); have f0 := hX1.frozen 0; have f1 := hX1.frozen 1; have f2 := hX1.frozen 2; have z0 : W1.cell? ⟨w.heap.size, 0, none⟩ = some (.int .i64 0) := hX1.cell 0; have z1 : W1.cell? ⟨w.heap.size, 1, none⟩ = some (.int .i64 0) := hX1.cell 1; have z2 : W1.cell? ⟨w.heap.size, 2, none⟩ = some (.int .u64 0) := hX1.cell 2; have HO1 := Lib.hid (show o1 w.heap.size = 9 from (hT1.ow _ HX0.out.lt).trans HO0.out); have HX1 := Lib.hid hX1; have HM1 := Lib.hid hM1; have HB1 := Lib.hid (HBX.out.to_ hT1 (by rw [newO_old n0_, HOW.out.1]; omega)); have HOB := Lib.hid (show o1 bx = 0 from (hT1.ow _ HBX.out.lt).trans ((newO_old n0_).trans HOW.out.1)); have HT1 := Lib.hid (HT0.out.trans (hT1.mono fun _ h => bld_1 h)); clear hB1 hT1 hM1 hX1) | (go_at_call 226; (with_reducible refine HPB.out.mono ?_); rintro e W1 ⟨rfl, o1, hB1, hT1⟩; have hM1 := HMB.out.buf_ hT1 hB1; have y0 : W1.cell? ⟨bx, 0, none⟩ = some (.pointer (some ⟨M.β, 0, none⟩)) := to_cell hT1 x0 (by rw [HOW.out.1]; omega); have y1 : W1.cell? ⟨bi, 0, none⟩ = some (.int .i64 (i : Int)) := to_cell hT1 x1 (by exact HOW.out.2.1); have y3 : W1.cell? ⟨bv, 0, none⟩ = some (.slice A n c) := to_cell hT1 x3 (by rw [HOW.out.2.2.1]; omega); have y4 : W1.cell? ⟨M.β, 0, none⟩ = some (.pointer (some ⟨M.bb, 0, none⟩)) := to_cell hT1 x4 (by rw [HOW.out.2.2.2.1]; omega); have y8 : W1.cell? ⟨M.β, 8, none⟩ = some (.slice (some ⟨g, off, none⟩) m8 c8) := to_cell hT1 x8 (by rw [HOW.out.2.2.2.1]; omega); have ya : W1.cell? ⟨g, off + i * 3, none⟩ = some (.int .i64 (kv.t : Int)) := to_cell hT1 xa (by rw [HOW.out.2.2.2.2]; omega); have yb : W1.cell? ⟨g, off + i * 3 + 1, none⟩ = some (.int .i64 (kv.w : Int)) := to_cell hT1 xb (by rw [HOW.out.2.2.2.2]; omega); have yc : W1.cell? ⟨g, off + i * 3 + 2, none⟩ = some (.int .u64 (kv.n : Int)) := to_cell hT1 xc (by rw [HOW.out.2.2.2.2]; omega); have p0 : bx ≠ W1.heap.size := Nat.ne_of_lt (lt_of_cell y0); have p1 : bi ≠ W1.heap.size := Nat.ne_of_lt (lt_of_cell y1); have p3 : bv ≠ W1.heap.size := Nat.ne_of_lt (lt_of_cell y3); have p4 : M.β ≠ W1.heap.size := Nat.ne_of_lt (lt_of_cell y4); have p8 : M.β ≠ W1.heap.size := Nat.ne_of_lt (lt_of_cell y8); have pa : g ≠ W1.heap.size := Nat.ne_of_lt (lt_of_cell ya); have pb : g ≠ W1.heap.size := Nat.ne_of_lt (lt_of_cell yb); have pc : g ≠ W1.heap.size := Nat.ne_of_lt (lt_of_cell yc); have HM1 := Lib.hid hM1; have HB1 := Lib.hid (HBB.out.to_ hT1 (by rw [HOW.out.1]; omega)); have HOB := Lib.hid (show o1 bx = 0 from (hT1.ow _ HBB.out.lt).trans HOW.out.1); have HT1 := Lib.hid (hT1.from_drew.mono fun _ h => bld_1 h); clear hB1 hT1 hM1))
    all_goals
      go_wp2_with fail
      go_meet
    all_goals
      first
      | exact ⟨_, rfl, rfl, w.heap.size, o1, rfl, HM1.out.to_ (to9 HO1.out _ _ _) bld_9, HB1.out.to_ (to9 HO1.out _ _ _) (by rw [HOB.out]; decide), HOB.out, ((HX1.out.set_ 0 (.int .i64 (v'.t : Int))).set_ 1 (.int .i64 (v'.w : Int))).set_ 2 (.int .u64 (v'.n : Int)), HO1.out, ((HT1.out.set_new (p := ⟨w.heap.size, 0, none⟩) (Nat.le_refl _) _).set_new (p := ⟨w.heap.size, 1, none⟩) (Nat.le_refl _) _).set_new (p := ⟨w.heap.size, 2, none⟩) (Nat.le_refl _) _⟩
      | exact ⟨_, rfl, rfl, W1.heap.size, newO o1 W1.heap.size 9, rfl, HM1.out.fresh ((Below.refl W1.heap.size W1).alloc (Nat.le_refl _) _) 9, HB1.out.pure ((Below.refl W1.heap.size W1).alloc (Nat.le_refl _) _), (newO_old HB1.out.lt).trans HOB.out, Blk.new _ _ _, newO_new (Nat.le_refl _), HT1.out.trans (To.fresh Bld ((Below.refl W1.heap.size W1).alloc (Nat.le_refl _) _) o1 9)⟩
  case rest =>
    obtain ⟨w4, rfl, rfl, b4, o4, rfl, hM4, hC4, hC4o, hX4, hO4, hT4⟩ := hcut
    have HM4 := Lib.hid hM4
    have HC4 := Lib.hid hC4
    have HC4O := Lib.hid hC4o
    have HX4 := Lib.hid hX4
    have HO4 := Lib.hid hO4
    have HT4 := Lib.hid hT4
    clear hM4 hC4 hC4o hX4 hO4 hT4 x0 n0 n0_ x1 n1 n1_ x3 n3 n3_ x4 n4 n4_ x8 n8 n8_ xa na na_ xb nb nb_ xc nc nc_ HM HP HPB HMB HX0 HO0 HT0 HBX HBB HOW
    have x0 : w4.cell? ⟨bx, 0, none⟩ = some (.pointer (some ⟨M.β, 0, none⟩)) := HC4.out.cell 0
    go_wp2_with fail
    go_at_call 127
    refine (fail_ok HM4.out).mono ?_
    rintro e w5 ⟨rfl, o5, hM5, hT5⟩
    have HM5 := Lib.hid hM5
    have HC5 := Lib.hid (HC4.out.to_ hT5 (by rw [HC4O.out]; exact bld_0))
    have HC5O := Lib.hid (show o5 bx = 0 from (hT5.ow _ HC4.out.lt).trans HC4O.out)
    have HX5 := Lib.hid (HX4.out.to_ hT5 (by rw [HO4.out]; exact fun h => bld_9 9 h rfl))
    have HO5 := Lib.hid (show o5 b4 = 9 from (hT5.ow _ HX4.out.lt).trans HO4.out)
    have HT5 := Lib.hid (HT4.out.trans hT5)
    clear hM5 hT5 x0
    have x0 : w5.cell? ⟨bx, 0, none⟩ = some (.pointer (some ⟨M.β, 0, none⟩)) := HC5.out.cell 0
    have v0 : w5.cell? ⟨b4, 0, none⟩ = some (.int .i64 (v'.t : Int)) := HX5.out.cell 0
    have v1 : w5.cell? ⟨b4, 1, none⟩ = some (.int .i64 (v'.w : Int)) := HX5.out.cell 1
    have v2 : w5.cell? ⟨b4, 2, none⟩ = some (.int .u64 (v'.n : Int)) := HX5.out.cell 2
    go_wp2_with fail
    go_region_held3 (fun w' => w'.cell? ⟨bx, 0, none⟩ = some (.pointer (some ⟨M.β, 0, none⟩)) ∧ w'.cell? ⟨b4, 0, none⟩ = some (.int .i64 (v'.t : Int)) ∧ w'.cell? ⟨b4, 1, none⟩ = some (.int .i64 (v'.w : Int)) ∧ w'.cell? ⟨b4, 2, none⟩ = some (.int .u64 (v'.n : Int))) (first | with_reducible exact ⟨x0, v0, v1, v2⟩ | with_reducible exact ⟨kdrew x0, kdrew v0, kdrew v1, kdrew v2⟩ | with_reducible exact ⟨y0, y1, y2, y3⟩) (first | (go_at_call 173; (with_reducible refine (pushp_spec M fl { b with b := l' } v' _ o5 HM5.out.drew HS.out).mono ?_); rintro e w6 ⟨rfl, o6, hM6, hT6⟩; have y0 : w6.cell? ⟨bx, 0, none⟩ = some (.pointer (some ⟨M.β, 0, none⟩)) := (HC5.out.to_ hT6.from_drew (by rw [HC5O.out]; exact bld_0)).cell 0; have hX6 := HX5.out.to_ hT6.from_drew (by rw [HO5.out]; exact fun h => bld_9 9 h rfl); have y1 : w6.cell? ⟨b4, 0, none⟩ = some (.int .i64 (v'.t : Int)) := hX6.cell 0; have y2 : w6.cell? ⟨b4, 1, none⟩ = some (.int .i64 (v'.w : Int)) := hX6.cell 1; have y3 : w6.cell? ⟨b4, 2, none⟩ = some (.int .u64 (v'.n : Int)) := hX6.cell 2; have HM6 := Lib.hid hM6; have HT6 := Lib.hid (HT5.out.trans hT6.from_drew); clear hM6 hT6 hX6))
    go_wp2_with fail
    go_end0
    exact ⟨rfl, o6, HM6.out, HT6.out⟩
end Go.Proofs.YtfoifdoaleaekaaGreat
namespace Go.Proofs.YtfoifdoaleaekaaGreat
open Go.RowKit Go.Acc
theorem step_appV {ops : Array Oper} {o : Oper} {a : Act} {w : World} {K : Act → World → Prop} {Q : Exit → Act → World → Prop} {E : Prop} (hgd : o.guard = none) (s x : Operand)
    (ho : o.op = .call { callee := .builtin .append, args := #[s, x], argTypes := #[160, 160] })
    (B : Nat) (A : Option Addr) (n c : Nat) (l : List V3) (hs : a.eval s = .slice A n c) (hown : OwnV w B A n c l)
    (A2 : Option Addr) (m d : Nat) (l2 : List V3) (hx : a.eval x = .slice A2 m d) (hr : IsV w A2 m l2)
    (hbytes : n + m ≤ 1099511627776) (hbase : B ≤ w.heap.size)
    (h : ∀ A' c' w', OwnV w' B A' (n + m) c' (l ++ l2) → Fr (fun k => ∃ ad, A = some ad ∧ k = ad.block) w w' → (A'.map (·.block) = A.map (·.block) ∨ A'.map (·.block) = some w.heap.size) → K (a.put o.dst (.slice A' (n + m) c')) w') :
    if Region.wanted o (yielded ops a.tmps) = true then Oper.wp Tryz.prog o a w K Q else E := by
  have hw : Region.wanted o (yielded ops a.tmps) = true := by simp [Region.wanted, hgd]
  rw [if_pos hw]
  obtain ⟨i, hi', hz, hsize, hby⟩ := info_parts info_v
  have e2 : n + m ≤ maxLen := by simp only [maxLen]; omega
  obtain ⟨v', w', hrun, h2, h3, h4⟩ := run_append_rd (P := Tryz.prog) w B 160 o.type 185 i _ 3 24 Tryz.underlying160 hi' hz hsize hby rfl (by omega) (.slice A n c) n (l.flatMap vc) hown.2 A2 m d (l2.flatMap vc) (by rw [fm_length vc_len, hr.1]) hr.2 (fm_one vc_one l2) e2 (by omega) hbase
  obtain ⟨A', c', rfl, ho'⟩ := Own.mk vc_len (by omega) (l := l ++ l2) h2 List.flatMap_append.symm
  have hk := h A' c' w' ho' ((Fr.of_grown h3).mono fun i _ hi => by
    cases A with
    | none => simp [Value.ownBlock] at hi
    | some ad => simp [Value.ownBlock] at hi; exact ⟨ad, rfl, hi⟩) (by
    rcases h4 with h4 | h4
    · left; revert h4; cases A' <;> cases A <;> simp [Value.ownBlock]
    · right; revert h4; cases A' <;> simp [Value.ownBlock])
  clear h ho' h2 h3 h4
  unfold Oper.wp
  simp only [execOp, ho, resolve, invoke, builtin, Sem.run_bind, Sem.run_pure, Result.andThen_ok, List.map_toArray, List.map_cons, List.map_nil, hs, hx, hrun]
  exact hk
theorem head_app {M : Bp} {fl : Int} {w W0 W1 : World} {o : Nat → Nat} {vals : List Bv} {A A' : Option Addr} {n c c' : Nat} {v : Bv} (hb : Blk w M.β 164 #[.pointer (some ⟨M.bb, 0, none⟩), .pointer (some ⟨M.sb, 0, none⟩), .int .i64 0, .int .i64 fl, .pointer (some ⟨M.kb, 0, none⟩), .pointer (some ⟨M.tb, 0, none⟩), .pointer (some ⟨M.lb, 0, none⟩), .map (some M.mb), .slice A n c, .bool true]) (h0 : OwnV w 0 A n c (vals.map vv)) (hof : Of o A 8) (hβ : o M.β = 2) (hW : Below w.heap.size w W0)
    (hown : OwnV W1 0 A' (n + 1) c' (vals.map vv ++ [vv v])) (hfr : Fr (fun k => ∃ ad, A = some ad ∧ k = ad.block) W0 W1) (hat : A'.map (·.block) = A.map (·.block) ∨ A'.map (·.block) = some W0.heap.size) :
    HeadO M fl (W1.setCell ⟨M.β, 8, none⟩ (.slice A' (n + 1) c')) (newO o w.heap.size 8) (vals ++ [v]) ∧ To (fun i => i = 2 ∨ i = 8) w o (W1.setCell ⟨M.β, 8, none⟩ (.slice A' (n + 1) c')) (newO o w.heap.size 8) := by
  have hne : ∀ ad, A = some ad → M.β ≠ ad.block := fun ad e h => by
    have h1 := hof ad e
    rw [← h, hβ] at h1
    omega
  have hb1 : Blk W1 M.β 164 #[.pointer (some ⟨M.bb, 0, none⟩), .pointer (some ⟨M.sb, 0, none⟩), .int .i64 0, .int .i64 fl, .pointer (some ⟨M.kb, 0, none⟩), .pointer (some ⟨M.tb, 0, none⟩), .pointer (some ⟨M.lb, 0, none⟩), .map (some M.mb), .slice A n c, .bool true] := (hb.pure hW).fr hfr (by rintro ⟨ad, e, h⟩; exact hne ad e h)
  have hof' : Of (newO o w.heap.size 8) A' 8 := by
    intro ad e
    subst e
    rcases hat with e | e
    · cases A with
      | none => cases e
      | some a0 =>
        injection e with e
        have e : ad.block = a0.block := e
        rw [e, newO_old (h0.addr a0 rfl).2.2]
        exact hof a0 rfl
    · injection e with e
      have e : ad.block = W0.heap.size := e
      rw [e, newO_new hW.size]
  have hβ' : newO o w.heap.size 8 M.β = 2 := by rw [newO_old hb.lt]; exact hβ
  refine ⟨⟨A', n + 1, c', hb1.set_ 8 (.slice A' (n + 1) c'), ?_, hof', hβ'⟩, ?_⟩
  · rw [List.map_append]
    refine hown.fr (Fr.setCell (S := fun k => k = M.β) (Fr.refl _ W1) (fun _ => rfl) _) ?_
    intro ad e h
    have h1 := hof' ad e
    have h2 : ad.block = M.β := h
    rw [h2, hβ'] at h1
    omega
  · have t1 : To (fun i => i = 2 ∨ i = 8) w o W1 (newO o w.heap.size 8) := by
      refine ⟨(Fr.of_below hW _).trans hfr ?_, fun k hk => newO_old hk⟩
      rintro k _ ⟨ad, e, rfl⟩
      exact .inr (hof ad e)
    exact t1.trans (To.of_fr0 (Fr.setCell (S := fun k => k = M.β) (Fr.refl _ W1) (p := ⟨M.β, 8, none⟩) (fun _ => rfl) _) (by rintro k _ rfl; exact .inl hβ'))
def Bd.table (f : Nat) (list : List UInt8) (ks vs : List Bv) (b : Bd) : Bd :=
  match (if onF f 4 = true then getP b.lists list else none) with
  | some i => let x := mapB (b.vals.getD i ⟨0, 0, 0⟩) vs b.b; { b with b := x.1, s := b.s ++ [x.2] }
  | none =>
    let y := bVec 14 true false ks b.b
    let x := mapB y.2 vs y.1
    { b with b := x.1, s := b.s ++ [x.2], vals := b.vals ++ [y.2], lists := putP b.lists list b.vals.length }
theorem endMap_table (f : Nat) (keys : List (List UInt8)) (start : Nat) (b : Bd) : b.endMap f keys start = Bd.table f (listOf keys) (evens (b.s.drop start)) (odds (b.s.drop start)) { b with s := b.s.take start } := rfl
theorem table_eq (f : Nat) (list : List UInt8) (ks vs : List Bv) (b : Bd) (g : Option Nat) (q : Bool) (hg : getP b.lists list = g) (hq : onF f 4 = q) : Bd.table f list ks vs b = match (if q = true then g else none) with
  | some i => let x := mapB (b.vals.getD i ⟨0, 0, 0⟩) vs b.b; { b with b := x.1, s := b.s ++ [x.2] }
  | none =>
    let y := bVec 14 true false ks b.b
    let x := mapB y.2 vs y.1
    { b with b := x.1, s := b.s ++ [x.2], vals := b.vals ++ [y.2], lists := putP b.lists list b.vals.length } := by
  unfold Bd.table
  rw [hg, hq]
structure TabOk (list : List UInt8) (ks vs : List Bv) (b : Bd) : Prop where
  kok : VecOk ks b.b
  kel : ∀ v ∈ ks, v.t = 4
  vok : VecOk vs b.b
  vok2 : VecOk vs (bVec 14 true false ks b.b).1
  kw : isW ((bVec 14 true false ks b.b).2.w : Int) = true
  kfit : Fit (bVec 14 true false ks b.b).1.length (bVec 14 true false ks b.b).2
  had : ∀ i, getP b.lists list = some i → ∃ kv, b.vals[i]? = some kv ∧ kv.t = 14 ∧ isW (kv.w : Int) = true ∧ Fit b.b.length kv
  ll : b.lists.length ≤ 1048575
  vl : b.vals.length ≤ 1048576
  st : b.s.length < 65536
end Go.Proofs.YtfoifdoaleaekaaGreat

namespace Go.Proofs.YtfoifdoaleaekaaGreat
open Go.RowKit Go.Acc
theorem bld_6 {i : Nat} (h : i = 6) : Bld i := by subst h; exact ⟨by omega, by omega⟩
theorem bld_28 {i : Nat} (h : i = 2 ∨ i = 8) : Bld i := by rcases h with rfl | rfl <;> exact ⟨by omega, by omega⟩
structure TbC (M : Bp) (A : Option Addr) (n c : Nat) (vs : List Bv) (bx bv bi i : Nat) (w : World) (o : Nat → Nat) : Prop where
  x : Blk w bx 122 #[.pointer (some ⟨M.β, 0, none⟩)]
  v : Blk w bv 160 #[.slice A n c]
  i : Blk w bi 3 #[.int .i64 (i : Int)]
  ox : o bx = 0
  ov : o bv = 0
  oi : o bi = 9
  iv : IsV w A n (vs.map vv)
  oa : ∀ ad, A = some ad → ad.block < w.heap.size ∧ o ad.block = 0
section
variable {M : Bp} {A : Option Addr} {n c : Nat} {vs : List Bv} {bx bv bi i : Nat} {w w' : World} {o o' : Nat → Nat}
theorem TbC.to_ {I : Nat → Prop} (h : TbC M A n c vs bx bv bi i w o) (ht : To I w o w' o') (h0 : ¬ I 0) (h9 : ¬ I 9) : TbC M A n c vs bx bv bi i w' o' :=
  ⟨h.x.to_ ht (by rw [h.ox]; exact h0), h.v.to_ ht (by rw [h.ov]; exact h0), h.i.to_ ht (by rw [h.oi]; exact h9), (ht.ow _ h.x.lt).trans h.ox, (ht.ow _ h.v.lt).trans h.ov, (ht.ow _ h.i.lt).trans h.oi,
    h.iv.fr ht.fr (fun ad e => by rw [(h.oa ad e).2]; exact h0), fun ad e => ⟨Nat.lt_of_lt_of_le (h.oa ad e).1 ht.size, (ht.ow _ (h.oa ad e).1).trans (h.oa ad e).2⟩⟩
theorem TbC.set (h : TbC M A n c vs bx bv bi i w o) (j : Nat) : TbC M A n c vs bx bv bi j (w.setCell ⟨bi, 0, none⟩ (.int .i64 (j : Int))) o := by
  have ht := to_own9 (w := w) (p := ⟨bi, 0, none⟩) h.oi (.int .i64 (j : Int))
  exact ⟨h.x.to_ ht (by rw [h.ox]; decide), h.v.to_ ht (by rw [h.ov]; decide), h.i.set_ 0 _, h.ox, h.ov, h.oi, h.iv.fr ht.fr (fun ad e => by rw [(h.oa ad e).2]; decide), fun ad e => ⟨Nat.lt_of_lt_of_le (h.oa ad e).1 ht.size, (h.oa ad e).2⟩⟩
theorem TbC.cells (h : TbC M A n c vs bx bv bi i w o) : w.cell? ⟨bx, 0, none⟩ = some (.pointer (some ⟨M.β, 0, none⟩)) ∧ w.cell? ⟨bv, 0, none⟩ = some (.slice A n c) ∧ w.cell? ⟨bi, 0, none⟩ = some (.int .i64 (i : Int)) := ⟨h.x.cell 0, h.v.cell 0, h.i.cell 0⟩
end
theorem nb9 : ¬ Bld 9 := by rintro ⟨h1, h2⟩; omega
set_option maxRecDepth 100000 in
set_option maxHeartbeats 4000000 in
theorem table_spec (M : Bp) (fl : Int) (b : Bd) (list : List UInt8) (AK : Option Addr) (nk ck : Nat) (ks : List Bv) (A : Option Addr) (n c : Nat) (vs : List Bv) (w : World) (o : Nat → Nat) (h : BM M fl w o b)
    (hK : IsV w AK nk (ks.map vv)) (hKo : ∀ ad, AK = some ad → ad.block < w.heap.size ∧ o ad.block = 0) (hv : IsV w A n (vs.map vv)) (ho : ∀ ad, A = some ad → ad.block < w.heap.size ∧ o ad.block = 0) (hT : TabOk list ks vs b) :
    Calls Tryz.prog 178 #[.pointer (some ⟨M.β, 0, none⟩), .string ⟨list.toArray⟩, .slice AK nk ck, .slice A n c] w (BTo M fl (Bd.table (Go.Proofs.YtfoifdoaleaekaaGreat.bits fl) list ks vs b) w o) := by
  obtain ⟨g, hg⟩ : ∃ g, getP b.lists list = g := ⟨_, rfl⟩
  obtain ⟨q, hq⟩ : ∃ q, onF (Go.Proofs.YtfoifdoaleaekaaGreat.bits fl) 4 = q := ⟨_, rfl⟩
  have HE := Lib.hid (table_eq (Go.Proofs.YtfoifdoaleaekaaGreat.bits fl) list ks vs b g q hg hq)
  have HQ := Lib.hid hq
  obtain ⟨gv, hgv⟩ : ∃ v, g.getD 0 = v := ⟨_, rfl⟩
  obtain ⟨had, hhad⟩ : ∃ v, g.isSome = v := ⟨_, rfl⟩
  have HG := Lib.hid (show optN (getP b.lists list) = .tuple #[.int .i64 (gv : Int), .bool had] by rw [hg]; unfold optN; rw [hgv, hhad])
  have HGV := Lib.hid (And.intro hgv hhad)
  have HO := Lib.hid hT
  have HAD := Lib.hid (fun i => (hg ▸ hT.had i : g = some i → _))
  have HLL := Lib.hid (show b.lists.length ≤ 1048576 by have := hT.ll; omega)
  obtain ⟨y, hy⟩ : ∃ y, bVec 14 true false ks b.b = y := ⟨_, rfl⟩
  have HY := Lib.hid hy
  obtain ⟨yb, kv⟩ := y
  have hB : Below w.heap.size w ((w.alloc (.cells #[.pointer (some ⟨M.β, 0, none⟩)] 122)).alloc (.cells #[.slice A n c] 160)) := below_two w _ _
  have HM1 := Lib.hid (h.fresh hB 0)
  have HT1 := Lib.hid (To.fresh Bld hB o 0)
  have HK1 := Lib.hid (And.intro (hK.pure hB) (fun ad e => ⟨Nat.lt_of_lt_of_le (hKo ad e).1 hB.size, (newO_old (hKo ad e).1).trans (hKo ad e).2⟩ : ∀ ad, AK = some ad → ad.block < _ ∧ newO o w.heap.size 0 ad.block = 0))
  have HC1 := Lib.hid (show Blk ((w.alloc (.cells #[.pointer (some ⟨M.β, 0, none⟩)] 122)).alloc (.cells #[.slice A n c] 160)) w.heap.size 122 #[.pointer (some ⟨M.β, 0, none⟩)] ∧ Blk ((w.alloc (.cells #[.pointer (some ⟨M.β, 0, none⟩)] 122)).alloc (.cells #[.slice A n c] 160)) (w.heap.size + 1) 160 #[.slice A n c] ∧ newO o w.heap.size 0 w.heap.size = 0 ∧ newO o w.heap.size 0 (w.heap.size + 1) = 0 ∧ IsV ((w.alloc (.cells #[.pointer (some ⟨M.β, 0, none⟩)] 122)).alloc (.cells #[.slice A n c] 160)) A n (vs.map vv) ∧ (∀ ad, A = some ad → ad.block < ((w.alloc (.cells #[.pointer (some ⟨M.β, 0, none⟩)] 122)).alloc (.cells #[.slice A n c] 160)).heap.size ∧ newO o w.heap.size 0 ad.block = 0) from
    ⟨(Blk.new w 122 #[.pointer (some ⟨M.β, 0, none⟩)]).alloc _, blk_new2 w _ 160 #[.slice A n c], newO_new (Nat.le_refl _), newO_new (by omega), hv.pure hB, fun ad e => ⟨Nat.lt_of_lt_of_le (ho ad e).1 hB.size, (newO_old (ho ad e).1).trans (ho ad e).2⟩⟩)
  clear h hK hKo hv ho hT hg hq hgv hhad hy hB
  go_enter Tryz.func178, Tryz.ntmps178
  go_upto_region 1 with fail
  generalize (w.alloc (.cells #[.pointer (some ⟨M.β, 0, none⟩)] 122)).alloc (.cells #[.slice A n c] 160) = w1 at HM1 HT1 HK1 HC1 ⊢
  generalize newO o w.heap.size 0 = o1 at HM1 HT1 HK1 HC1
  generalize w.heap.size + 1 = bv at HC1 ⊢
  generalize w.heap.size = bx at HC1 ⊢
  have x0 : w1.cell? ⟨bx, 0, none⟩ = some (.pointer (some ⟨M.β, 0, none⟩)) := HC1.out.1.cell 0
  obtain ⟨_, _, _, _, b6, _⟩ := head_tb HM1.out.head
  go_wp2_with fail
  go_at_call 217
  refine (pget_spec 6 M.lb b.lists list _ o1 HM1.out.lists HLL.out).mono ?_
  rintro e w2 ⟨rfl, hB⟩
  rw [HG.out]
  have HBI := Lib.hid (Nat.le_trans HT1.out.size hB.size)
  have hal := (Below.refl w2.heap.size w2).alloc (Nat.le_refl _) (.cells #[.int .i64 (gv : Int)] 3)
  have hB3 := pure_below hB hal
  have HM3 := Lib.hid (HM1.out.fresh hB3 9)
  have HT3 := Lib.hid (HT1.out.trans (To.fresh Bld hB3 o1 9))
  have HK3 := Lib.hid (And.intro (HK1.out.1.pure hB3) (fun ad e => ⟨Nat.lt_of_lt_of_le (HK1.out.2 ad e).1 hB3.size, (newO_old (HK1.out.2 ad e).1).trans (HK1.out.2 ad e).2⟩ : ∀ ad, AK = some ad → ad.block < _ ∧ newO o1 w1.heap.size 9 ad.block = 0))
  have HC3 := Lib.hid (show TbC M A n c vs bx bv w2.heap.size gv (w2.alloc (.cells #[.int .i64 (gv : Int)] 3)) (newO o1 w1.heap.size 9) from
    ⟨HC1.out.1.pure hB3, HC1.out.2.1.pure hB3, Blk.new _ _ _, (newO_old HC1.out.1.lt).trans HC1.out.2.2.1, (newO_old HC1.out.2.1.lt).trans HC1.out.2.2.2.1, newO_new hB.size, HC1.out.2.2.2.2.1.pure hB3, fun ad e => ⟨Nat.lt_of_lt_of_le (HC1.out.2.2.2.2.2 ad e).1 hB3.size, (newO_old (HC1.out.2.2.2.2.2 ad e).1).trans (HC1.out.2.2.2.2.2 ad e).2⟩⟩)
  clear hB hal hB3 x0 b6
  go_upto_region 2 with fail
  generalize w2.alloc (.cells #[.int .i64 (gv : Int)] 3) = w3 at HM3 HT3 HK3 HC3 ⊢
  generalize newO o1 w1.heap.size 9 = o3 at HM3 HT3 HK3 HC3
  generalize w2.heap.size = bi at HC3 HBI ⊢
  obtain ⟨b0, b3, _⟩ := head_tb HM3.out.head
  obtain ⟨x0, x1, x2⟩ := HC3.out.cells
  obtain ⟨hg, hgh⟩ := HGV.out
  cases g with
  | none =>
    obtain rfl : had = false := by rw [← hgh]; rfl
    have HP := Lib.hid (show (if q = true then (none : Option Nat) else none) = none by split <;> rfl)
    clear hg hgh
    have HCI := Lib.hid HC3.out
    obtain ⟨b0, _, _, _, b6, _⟩ := head_tb HM3.out.head
    obtain ⟨x0, x1, x2⟩ := HC3.out.cells
    go_wp2_with fail
    go_at_call 224
    refine (mkeys_spec M.bb nk ck AK ks b.b _ o3 HM3.out.buf HK3.out.1 (fun ad e => ⟨(HK3.out.2 ad e).1, by rw [(HK3.out.2 ad e).2]; omega⟩) HO.out.kok HO.out.kel).mono ?_
    rintro e w4 ⟨rfl, o4, hB4, hT4⟩
    have HM4 := Lib.hid (HM3.out.buf_ hT4 hB4)
    have HC4 := Lib.hid (HC3.out.to_ hT4 (by omega) (by omega))
    have HT4 := Lib.hid (HT3.out.trans (hT4.mono fun _ h => bld_1 h))
    clear hB4 hT4 b0 b6 x0 x1 x2
    rw [HY.out] at HM4 ⊢
    obtain ⟨x0, x1, x2⟩ := HC4.out.cells
    have hal := (Below.refl w4.heap.size w4).alloc (Nat.le_refl _) (.cells #[.int .i64 (kv.t : Int), .int .i64 (kv.w : Int), .int .u64 (kv.n : Int)] 185)
    have HM5 := Lib.hid (HM4.out.fresh hal 0)
    have HC5 := Lib.hid (HC4.out.to_ (To.fresh Bld hal o4 0) bld_0 nb9)
    have HT5 := Lib.hid (HT4.out.trans (To.fresh Bld hal o4 0))
    have HX5 := Lib.hid (Blk.new w4 185 #[.int .i64 (kv.t : Int), .int .i64 (kv.w : Int), .int .u64 (kv.n : Int)])
    have HO5 := Lib.hid (show newO o4 w4.heap.size 0 w4.heap.size = 0 from newO_new (Nat.le_refl _))
    have HLT := Lib.hid hal
    clear hal
    go_upto_region 4 with fail
    generalize w4.alloc (.cells #[.int .i64 (kv.t : Int), .int .i64 (kv.w : Int), .int .u64 (kv.n : Int)] 185) = w5 at HM5 HC5 HT5 HX5 ⊢
    generalize newO o4 w4.heap.size 0 = o5 at HM5 HC5 HT5 HO5
    generalize w4.heap.size = bk at HX5 HO5 ⊢
    clear x0 x1 x2
    obtain ⟨x0, x1, x2⟩ := HC5.out.cells
    go_wp2_with fail
    go_at_call 127
    refine (fail_ok HM5.out).mono ?_
    rintro e w6 ⟨rfl, o6, hM6, hT6⟩
    have HM6 := Lib.hid hM6
    have HC6 := Lib.hid (HC5.out.to_ hT6 bld_0 nb9)
    have HX6 := Lib.hid (HX5.out.to_ hT6 (by rw [HO5.out]; exact bld_0))
    have HO6 := Lib.hid (show o6 bk = 0 from (hT6.ow _ HX5.out.lt).trans HO5.out)
    have HT6 := Lib.hid (HT5.out.trans hT6)
    clear hM6 hT6 x0 x1 x2
    obtain ⟨x0, x1, x2⟩ := HC6.out.cells
    obtain ⟨A8, m8, c8, hb8, ho8, hof8, hoβ⟩ := HM6.out.head
    have hm8 : b.vals.length = m8 := by have := ho8.is.1; simpa using this
    have hm8l : m8 ≤ 1048576 := by have := HO.out.vl; omega
    have y8 : w6.cell? ⟨M.β, 8, none⟩ = some (.slice A8 m8 c8) := hb8.cell 8
    have fi : w6.frozen? ⟨bi, 0, none⟩ = false := HC6.out.i.frozen 0
    have HT8 := Lib.hid (HT6.out.set_new (p := ⟨bi, 0, none⟩) HBI.out (.int .i64 (m8 : Int)))
    have HC7 := Lib.hid (HC6.out.set m8)
    have HM7 := Lib.hid (HM6.out.to_ (to_own9 (p := ⟨bi, 0, none⟩) HC6.out.oi (.int .i64 (m8 : Int))) bld_9)
    have HX7 := Lib.hid (HX6.out.to_ (to_own9 (p := ⟨bi, 0, none⟩) HC6.out.oi (.int .i64 (m8 : Int))) (by rw [HO6.out]; decide))
    go_upto_region 6 with fail
    generalize w6.setCell ⟨bi, 0, none⟩ (.int .i64 (m8 : Int)) = w7 at HC7 HM7 HX7 HT8 ⊢
    clear hb8 ho8 hof8 hoβ x0 x1 x2 y8 fi
    obtain ⟨x0, x1, x2⟩ := HC7.out.cells
    obtain ⟨_, _, _, _, b6, _⟩ := head_tb HM7.out.head
    go_region_held3 (fun w' => w'.cell? ⟨bx, 0, none⟩ = some (.pointer (some ⟨M.β, 0, none⟩)) ∧ w'.cell? ⟨M.β, 6, none⟩ = some (.pointer (some ⟨M.lb, 0, none⟩)) ∧ w'.cell? ⟨bi, 0, none⟩ = some (.int .i64 (m8 : Int))) (first | with_reducible exact ⟨x0, b6, x2⟩ | with_reducible exact ⟨kdrew x0, kdrew b6, kdrew x2⟩ | with_reducible exact ⟨y0, y6, y2⟩) (first | (go_at_call 219; (with_reducible refine (pput_spec 6 M.lb b.lists list m8 _ o6 HM7.out.drew.lists HO.out.ll hm8l).mono ?_); rintro e w8 ⟨⟨x, rfl⟩, o8, hB8, hT8⟩; have hT8' := hT8.from_drew; have hC8 := HC7.out.to_ hT8' (by omega) (by omega); obtain ⟨y0, _, y2⟩ := hC8.cells; have hM8 := HM7.out.lists_ hT8' hB8; obtain ⟨_, _, _, _, y6, _⟩ := head_tb hM8.head; have HM8 := Lib.hid hM8; have HC8 := Lib.hid hC8; have HX8 := Lib.hid (HX7.out.to_ hT8' (by rw [HO6.out]; omega)); have HO8 := Lib.hid (show o8 bk = 0 from (hT8'.ow _ HX7.out.lt).trans HO6.out); have HT9 := Lib.hid (HT8.out.trans (hT8'.mono fun _ h => bld_6 h)); clear hB8 hT8 hT8' hC8 hM8))
    clear x0 x1 x2 b6
    obtain ⟨A9, m9, c9, hb9, ho9, hof9, hoβ9⟩ := HM8.out.head
    obtain rfl : m9 = m8 := by have := ho9.is.1; rw [← hm8]; simpa using this.symm
    have k0 : w8.cell? ⟨bk, 0, none⟩ = some (.int .i64 (kv.t : Int)) := HX8.out.cell 0
    have k1 : w8.cell? ⟨bk, 1, none⟩ = some (.int .i64 (kv.w : Int)) := HX8.out.cell 1
    have k2 : w8.cell? ⟨bk, 2, none⟩ = some (.int .u64 (kv.n : Int)) := HX8.out.cell 2
    have y8 : w8.cell? ⟨M.β, 8, none⟩ = some (.slice A9 m9 c9) := hb9.cell 8
    have hW0 : Below w8.heap.size w8 (w8.alloc (.cells #[.int .i64 (kv.t : Int), .int .i64 (kv.w : Int), .int .u64 (kv.n : Int)] 185)).drew := ((Below.refl _ _).alloc (Nat.le_refl _) _).drew
    have HW0 := Lib.hid hW0
    have HLI := Lib.hid (show IsV (w8.alloc (.cells #[.int .i64 (kv.t : Int), .int .i64 (kv.w : Int), .int .u64 (kv.n : Int)] 185)).drew (some ⟨w8.heap.size, 0, none⟩) 1 [vv kv] from (isv_lit w8 kv).pure (Below.refl _ _).drew)
    have HOW := Lib.hid (ho9.pure hW0)
    have HB9 := Lib.hid hb9
    have HO9 := Lib.hid ho9
    have HOF9 := Lib.hid hof9
    have HOB9 := Lib.hid hoβ9
    have j0 : (w8.alloc (.cells #[.int .i64 (kv.t : Int), .int .i64 (kv.w : Int), .int .u64 (kv.n : Int)] 185)).cell? ⟨bx, 0, none⟩ = some (.pointer (some ⟨M.β, 0, none⟩)) := cell_al _ y0
    have j8 : (w8.alloc (.cells #[.int .i64 (kv.t : Int), .int .i64 (kv.w : Int), .int .u64 (kv.n : Int)] 185)).cell? ⟨M.β, 8, none⟩ = some (.slice A9 m9 c9) := cell_al _ y8
    have jk0 : (w8.alloc (.cells #[.int .i64 (kv.t : Int), .int .i64 (kv.w : Int), .int .u64 (kv.n : Int)] 185)).cell? ⟨bk, 0, none⟩ = some (.int .i64 (kv.t : Int)) := cell_al _ k0
    have jk1 : (w8.alloc (.cells #[.int .i64 (kv.t : Int), .int .i64 (kv.w : Int), .int .u64 (kv.n : Int)] 185)).cell? ⟨bk, 1, none⟩ = some (.int .i64 (kv.w : Int)) := cell_al _ k1
    have jk2 : (w8.alloc (.cells #[.int .i64 (kv.t : Int), .int .i64 (kv.w : Int), .int .u64 (kv.n : Int)] 185)).cell? ⟨bk, 2, none⟩ = some (.int .u64 (kv.n : Int)) := cell_al _ k2
    clear hb9 ho9 hof9 hoβ9 hW0
    go_wp2_with fail
    go_cut [] (fun wx => ∃ wy, wy = wx ∧ ∃ oA, BM M fl wx oA { b with b := yb, vals := b.vals ++ [kv], lists := putP b.lists list m9 } ∧ TbC M A n c vs bx bv bi m9 wx oA ∧ To Bld w o wx oA)
    case first =>
      go_region_law (refine step_appV rfl (.tmp 65) (.tmp 67) rfl 0 A9 m9 c9 (b.vals.map vv) rfl HOW.out _ 1 1 [vv kv] rfl HLI.out (by omega) (Nat.zero_le _) ?_; intro AA ca W1 hown hfr hat; have hh := head_app HB9.out HO9.out HOF9.out HOB9.out HW0.out hown hfr hat; have hbx := (HC8.out.x.pure HW0.out).fr hfr (by rintro ⟨ad, e, h⟩; have h1 := HOF9.out ad e; rw [← h, HC8.out.ox] at h1; omega); have hbb := (HB9.out.pure HW0.out).fr hfr (by rintro ⟨ad, e, h⟩; have h1 := HOF9.out ad e; rw [← h, HOB9.out] at h1; omega); have z0 : W1.cell? ⟨bx, 0, none⟩ = some (.pointer (some ⟨M.β, 0, none⟩)) := hbx.cell 0; have z8 : W1.cell? ⟨M.β, 8, none⟩ = some (.slice A9 m9 c9) := hbb.cell 8; have f8 : W1.frozen? ⟨M.β, 8, none⟩ = false := hbb.frozen 8; have hk := (HX8.out.pure HW0.out).fr hfr (by rintro ⟨ad, e, h⟩; have h1 := HOF9.out ad e; rw [← h, HO8.out] at h1; omega); have z1 : W1.cell? ⟨bk, 0, none⟩ = some (.int .i64 (kv.t : Int)) := hk.cell 0; have z2 : W1.cell? ⟨bk, 1, none⟩ = some (.int .i64 (kv.w : Int)) := hk.cell 1; have z3 : W1.cell? ⟨bk, 2, none⟩ = some (.int .u64 (kv.n : Int)) := hk.cell 2; have HH := Lib.hid hh; clear hown hfr hat hh hbx hbb hk)
      all_goals
        go_wp2_with fail
        go_meet
        exact ⟨_, rfl, _, HM8.out.head_ HH.out.2 HH.out.1, HC8.out.to_ HH.out.2 (by omega) (by omega), HT9.out.trans (HH.out.2.mono fun _ h => bld_28 h)⟩
    case rest =>
      obtain ⟨wA, rfl, oA, hMA, hCA, hTA⟩ := hcut
      have HMA := Lib.hid hMA
      have HCA := Lib.hid hCA
      have HTA := Lib.hid hTA
      have HF := Lib.hid (show (b.vals ++ [kv])[m9]? = some kv ∧ b.s.length < 65536 ∧ VecOk vs yb ∧ kv.t = 14 ∧ isW (kv.w : Int) = true ∧ Fit yb.length kv from
        ⟨by rw [List.getElem?_append_right (by omega), hm8, Nat.sub_self]; rfl, HO.out.st, by have h := HO.out.vok2; rw [HY.out] at h; exact h, by have h := HY.out; unfold bVec at h; injection h with _ h; rw [← h], by have h := HO.out.kw; rw [HY.out] at h; exact h, by have h := HO.out.kfit; rw [HY.out] at h; exact h⟩)
      clear hMA hCA hTA y0 y2 y6 y8 k0 k1 k2 j0 j8 jk0 jk1 jk2
      obtain ⟨x0, _, _⟩ := HCA.out.cells
      go_wp2_with fail
      go_at_call 163
      refine (unless_spec M fl 225 _ _ _ ({ b with b := yb, vals := b.vals ++ [kv], lists := putP b.lists list m9 }).vals _ HMA.out.head Tryz.call225 ((table1_spec M fl ({ b with b := yb, vals := b.vals ++ [kv], lists := putP b.lists list m9 }) kv m9 bx bi bv A n c vs wA _ HMA.out HCA.out.x HCA.out.i HCA.out.v HCA.out.ox (by rw [HCA.out.oi]; decide) HCA.out.ov HCA.out.iv HCA.out.oa HF.out.1 HF.out.2.1 HF.out.2.2.1 HF.out.2.2.2.1 HF.out.2.2.2.2.1 HF.out.2.2.2.2.2).mono fun e w' h => ⟨h.1, h⟩)).mono ?_
      rintro e w' ⟨rfl, oz, hMz, hTz⟩
      have HMZ := Lib.hid hMz
      have HTZ := Lib.hid (HTA.out.trans hTz)
      clear hMz hTz
      go_wp2_with fail
      go_end0
      refine ⟨rfl, oz, ?_, HTZ.out⟩
      rw [HE.out]
      simp only [HP.out, HY.out, hm8]
      exact HMZ.out
  | some a =>
    obtain rfl : had = true := by rw [← hgh]; rfl
    obtain rfl : gv = a := by rw [← hg]; rfl
    clear hg hgh
    go_wp2_with fail
    go_at_call 218
    refine (on_spec M.β 4 2 fl q w3 b3 (by omega) rfl HQ.out).mono ?_
    rintro e w' ⟨rfl, rfl⟩
    cases q with
    | false =>
      have HP := Lib.hid (show (if false = true then some gv else none) = none from rfl)
      clear b0 b3 x0 x1 x2
      have HCI := Lib.hid HC3.out
      obtain ⟨b0, _, _, _, b6, _⟩ := head_tb HM3.out.head
      obtain ⟨x0, x1, x2⟩ := HC3.out.cells
      go_wp2_with fail
      go_at_call 224
      refine (mkeys_spec M.bb nk ck AK ks b.b _ o3 HM3.out.buf HK3.out.1 (fun ad e => ⟨(HK3.out.2 ad e).1, by rw [(HK3.out.2 ad e).2]; omega⟩) HO.out.kok HO.out.kel).mono ?_
      rintro e w4 ⟨rfl, o4, hB4, hT4⟩
      have HM4 := Lib.hid (HM3.out.buf_ hT4 hB4)
      have HC4 := Lib.hid (HC3.out.to_ hT4 (by omega) (by omega))
      have HT4 := Lib.hid (HT3.out.trans (hT4.mono fun _ h => bld_1 h))
      clear hB4 hT4 b0 b6 x0 x1 x2
      rw [HY.out] at HM4 ⊢
      obtain ⟨x0, x1, x2⟩ := HC4.out.cells
      have hal := (Below.refl w4.heap.size w4).alloc (Nat.le_refl _) (.cells #[.int .i64 (kv.t : Int), .int .i64 (kv.w : Int), .int .u64 (kv.n : Int)] 185)
      have HM5 := Lib.hid (HM4.out.fresh hal 0)
      have HC5 := Lib.hid (HC4.out.to_ (To.fresh Bld hal o4 0) bld_0 nb9)
      have HT5 := Lib.hid (HT4.out.trans (To.fresh Bld hal o4 0))
      have HX5 := Lib.hid (Blk.new w4 185 #[.int .i64 (kv.t : Int), .int .i64 (kv.w : Int), .int .u64 (kv.n : Int)])
      have HO5 := Lib.hid (show newO o4 w4.heap.size 0 w4.heap.size = 0 from newO_new (Nat.le_refl _))
      have HLT := Lib.hid hal
      clear hal
      go_upto_region 4 with fail
      generalize w4.alloc (.cells #[.int .i64 (kv.t : Int), .int .i64 (kv.w : Int), .int .u64 (kv.n : Int)] 185) = w5 at HM5 HC5 HT5 HX5 ⊢
      generalize newO o4 w4.heap.size 0 = o5 at HM5 HC5 HT5 HO5
      generalize w4.heap.size = bk at HX5 HO5 ⊢
      clear x0 x1 x2
      obtain ⟨x0, x1, x2⟩ := HC5.out.cells
      go_wp2_with fail
      go_at_call 127
      refine (fail_ok HM5.out).mono ?_
      rintro e w6 ⟨rfl, o6, hM6, hT6⟩
      have HM6 := Lib.hid hM6
      have HC6 := Lib.hid (HC5.out.to_ hT6 bld_0 nb9)
      have HX6 := Lib.hid (HX5.out.to_ hT6 (by rw [HO5.out]; exact bld_0))
      have HO6 := Lib.hid (show o6 bk = 0 from (hT6.ow _ HX5.out.lt).trans HO5.out)
      have HT6 := Lib.hid (HT5.out.trans hT6)
      clear hM6 hT6 x0 x1 x2
      obtain ⟨x0, x1, x2⟩ := HC6.out.cells
      obtain ⟨A8, m8, c8, hb8, ho8, hof8, hoβ⟩ := HM6.out.head
      have hm8 : b.vals.length = m8 := by have := ho8.is.1; simpa using this
      have hm8l : m8 ≤ 1048576 := by have := HO.out.vl; omega
      have y8 : w6.cell? ⟨M.β, 8, none⟩ = some (.slice A8 m8 c8) := hb8.cell 8
      have fi : w6.frozen? ⟨bi, 0, none⟩ = false := HC6.out.i.frozen 0
      have HT8 := Lib.hid (HT6.out.set_new (p := ⟨bi, 0, none⟩) HBI.out (.int .i64 (m8 : Int)))
      have HC7 := Lib.hid (HC6.out.set m8)
      have HM7 := Lib.hid (HM6.out.to_ (to_own9 (p := ⟨bi, 0, none⟩) HC6.out.oi (.int .i64 (m8 : Int))) bld_9)
      have HX7 := Lib.hid (HX6.out.to_ (to_own9 (p := ⟨bi, 0, none⟩) HC6.out.oi (.int .i64 (m8 : Int))) (by rw [HO6.out]; decide))
      go_upto_region 6 with fail
      generalize w6.setCell ⟨bi, 0, none⟩ (.int .i64 (m8 : Int)) = w7 at HC7 HM7 HX7 HT8 ⊢
      clear hb8 ho8 hof8 hoβ x0 x1 x2 y8 fi
      obtain ⟨x0, x1, x2⟩ := HC7.out.cells
      obtain ⟨_, _, _, _, b6, _⟩ := head_tb HM7.out.head
      go_region_held3 (fun w' => w'.cell? ⟨bx, 0, none⟩ = some (.pointer (some ⟨M.β, 0, none⟩)) ∧ w'.cell? ⟨M.β, 6, none⟩ = some (.pointer (some ⟨M.lb, 0, none⟩)) ∧ w'.cell? ⟨bi, 0, none⟩ = some (.int .i64 (m8 : Int))) (first | with_reducible exact ⟨x0, b6, x2⟩ | with_reducible exact ⟨kdrew x0, kdrew b6, kdrew x2⟩ | with_reducible exact ⟨y0, y6, y2⟩) (first | (go_at_call 219; (with_reducible refine (pput_spec 6 M.lb b.lists list m8 _ o6 HM7.out.drew.lists HO.out.ll hm8l).mono ?_); rintro e w8 ⟨⟨x, rfl⟩, o8, hB8, hT8⟩; have hT8' := hT8.from_drew; have hC8 := HC7.out.to_ hT8' (by omega) (by omega); obtain ⟨y0, _, y2⟩ := hC8.cells; have hM8 := HM7.out.lists_ hT8' hB8; obtain ⟨_, _, _, _, y6, _⟩ := head_tb hM8.head; have HM8 := Lib.hid hM8; have HC8 := Lib.hid hC8; have HX8 := Lib.hid (HX7.out.to_ hT8' (by rw [HO6.out]; omega)); have HO8 := Lib.hid (show o8 bk = 0 from (hT8'.ow _ HX7.out.lt).trans HO6.out); have HT9 := Lib.hid (HT8.out.trans (hT8'.mono fun _ h => bld_6 h)); clear hB8 hT8 hT8' hC8 hM8))
      clear x0 x1 x2 b6
      obtain ⟨A9, m9, c9, hb9, ho9, hof9, hoβ9⟩ := HM8.out.head
      obtain rfl : m9 = m8 := by have := ho9.is.1; rw [← hm8]; simpa using this.symm
      have k0 : w8.cell? ⟨bk, 0, none⟩ = some (.int .i64 (kv.t : Int)) := HX8.out.cell 0
      have k1 : w8.cell? ⟨bk, 1, none⟩ = some (.int .i64 (kv.w : Int)) := HX8.out.cell 1
      have k2 : w8.cell? ⟨bk, 2, none⟩ = some (.int .u64 (kv.n : Int)) := HX8.out.cell 2
      have y8 : w8.cell? ⟨M.β, 8, none⟩ = some (.slice A9 m9 c9) := hb9.cell 8
      have hW0 : Below w8.heap.size w8 (w8.alloc (.cells #[.int .i64 (kv.t : Int), .int .i64 (kv.w : Int), .int .u64 (kv.n : Int)] 185)).drew := ((Below.refl _ _).alloc (Nat.le_refl _) _).drew
      have HW0 := Lib.hid hW0
      have HLI := Lib.hid (show IsV (w8.alloc (.cells #[.int .i64 (kv.t : Int), .int .i64 (kv.w : Int), .int .u64 (kv.n : Int)] 185)).drew (some ⟨w8.heap.size, 0, none⟩) 1 [vv kv] from (isv_lit w8 kv).pure (Below.refl _ _).drew)
      have HOW := Lib.hid (ho9.pure hW0)
      have HB9 := Lib.hid hb9
      have HO9 := Lib.hid ho9
      have HOF9 := Lib.hid hof9
      have HOB9 := Lib.hid hoβ9
      have j0 : (w8.alloc (.cells #[.int .i64 (kv.t : Int), .int .i64 (kv.w : Int), .int .u64 (kv.n : Int)] 185)).cell? ⟨bx, 0, none⟩ = some (.pointer (some ⟨M.β, 0, none⟩)) := cell_al _ y0
      have j8 : (w8.alloc (.cells #[.int .i64 (kv.t : Int), .int .i64 (kv.w : Int), .int .u64 (kv.n : Int)] 185)).cell? ⟨M.β, 8, none⟩ = some (.slice A9 m9 c9) := cell_al _ y8
      have jk0 : (w8.alloc (.cells #[.int .i64 (kv.t : Int), .int .i64 (kv.w : Int), .int .u64 (kv.n : Int)] 185)).cell? ⟨bk, 0, none⟩ = some (.int .i64 (kv.t : Int)) := cell_al _ k0
      have jk1 : (w8.alloc (.cells #[.int .i64 (kv.t : Int), .int .i64 (kv.w : Int), .int .u64 (kv.n : Int)] 185)).cell? ⟨bk, 1, none⟩ = some (.int .i64 (kv.w : Int)) := cell_al _ k1
      have jk2 : (w8.alloc (.cells #[.int .i64 (kv.t : Int), .int .i64 (kv.w : Int), .int .u64 (kv.n : Int)] 185)).cell? ⟨bk, 2, none⟩ = some (.int .u64 (kv.n : Int)) := cell_al _ k2
      clear hb9 ho9 hof9 hoβ9 hW0
      go_wp2_with fail
      go_cut [] (fun wx => ∃ wy, wy = wx ∧ ∃ oA, BM M fl wx oA { b with b := yb, vals := b.vals ++ [kv], lists := putP b.lists list m9 } ∧ TbC M A n c vs bx bv bi m9 wx oA ∧ To Bld w o wx oA)
      case first =>
        go_region_law (refine step_appV rfl (.tmp 65) (.tmp 67) rfl 0 A9 m9 c9 (b.vals.map vv) rfl HOW.out _ 1 1 [vv kv] rfl HLI.out (by omega) (Nat.zero_le _) ?_; intro AA ca W1 hown hfr hat; have hh := head_app HB9.out HO9.out HOF9.out HOB9.out HW0.out hown hfr hat; have hbx := (HC8.out.x.pure HW0.out).fr hfr (by rintro ⟨ad, e, h⟩; have h1 := HOF9.out ad e; rw [← h, HC8.out.ox] at h1; omega); have hbb := (HB9.out.pure HW0.out).fr hfr (by rintro ⟨ad, e, h⟩; have h1 := HOF9.out ad e; rw [← h, HOB9.out] at h1; omega); have z0 : W1.cell? ⟨bx, 0, none⟩ = some (.pointer (some ⟨M.β, 0, none⟩)) := hbx.cell 0; have z8 : W1.cell? ⟨M.β, 8, none⟩ = some (.slice A9 m9 c9) := hbb.cell 8; have f8 : W1.frozen? ⟨M.β, 8, none⟩ = false := hbb.frozen 8; have hk := (HX8.out.pure HW0.out).fr hfr (by rintro ⟨ad, e, h⟩; have h1 := HOF9.out ad e; rw [← h, HO8.out] at h1; omega); have z1 : W1.cell? ⟨bk, 0, none⟩ = some (.int .i64 (kv.t : Int)) := hk.cell 0; have z2 : W1.cell? ⟨bk, 1, none⟩ = some (.int .i64 (kv.w : Int)) := hk.cell 1; have z3 : W1.cell? ⟨bk, 2, none⟩ = some (.int .u64 (kv.n : Int)) := hk.cell 2; have HH := Lib.hid hh; clear hown hfr hat hh hbx hbb hk)
        all_goals
          go_wp2_with fail
          go_meet
          exact ⟨_, rfl, _, HM8.out.head_ HH.out.2 HH.out.1, HC8.out.to_ HH.out.2 (by omega) (by omega), HT9.out.trans (HH.out.2.mono fun _ h => bld_28 h)⟩
      case rest =>
        obtain ⟨wA, rfl, oA, hMA, hCA, hTA⟩ := hcut
        have HMA := Lib.hid hMA
        have HCA := Lib.hid hCA
        have HTA := Lib.hid hTA
        have HF := Lib.hid (show (b.vals ++ [kv])[m9]? = some kv ∧ b.s.length < 65536 ∧ VecOk vs yb ∧ kv.t = 14 ∧ isW (kv.w : Int) = true ∧ Fit yb.length kv from
          ⟨by rw [List.getElem?_append_right (by omega), hm8, Nat.sub_self]; rfl, HO.out.st, by have h := HO.out.vok2; rw [HY.out] at h; exact h, by have h := HY.out; unfold bVec at h; injection h with _ h; rw [← h], by have h := HO.out.kw; rw [HY.out] at h; exact h, by have h := HO.out.kfit; rw [HY.out] at h; exact h⟩)
        clear hMA hCA hTA y0 y2 y6 y8 k0 k1 k2 j0 j8 jk0 jk1 jk2
        obtain ⟨x0, _, _⟩ := HCA.out.cells
        go_wp2_with fail
        go_at_call 163
        refine (unless_spec M fl 225 _ _ _ ({ b with b := yb, vals := b.vals ++ [kv], lists := putP b.lists list m9 }).vals _ HMA.out.head Tryz.call225 ((table1_spec M fl ({ b with b := yb, vals := b.vals ++ [kv], lists := putP b.lists list m9 }) kv m9 bx bi bv A n c vs wA _ HMA.out HCA.out.x HCA.out.i HCA.out.v HCA.out.ox (by rw [HCA.out.oi]; decide) HCA.out.ov HCA.out.iv HCA.out.oa HF.out.1 HF.out.2.1 HF.out.2.2.1 HF.out.2.2.2.1 HF.out.2.2.2.2.1 HF.out.2.2.2.2.2).mono fun e w' h => ⟨h.1, h⟩)).mono ?_
        rintro e w' ⟨rfl, oz, hMz, hTz⟩
        have HMZ := Lib.hid hMz
        have HTZ := Lib.hid (HTA.out.trans hTz)
        clear hMz hTz
        go_wp2_with fail
        go_end0
        refine ⟨rfl, oz, ?_, HTZ.out⟩
        rw [HE.out]
        simp only [HP.out, HY.out, hm8]
        exact HMZ.out
    | true =>
      obtain ⟨kv0, hk0⟩ := HAD.out gv rfl
      have HF := Lib.hid (show b.vals[gv]? = some kv0 ∧ b.s.length < 65536 ∧ VecOk vs b.b ∧ kv0.t = 14 ∧ isW (kv0.w : Int) = true ∧ Fit b.b.length kv0 from ⟨hk0.1, HO.out.st, HO.out.vok, hk0.2.1, hk0.2.2.1, hk0.2.2.2⟩)
      have HV := Lib.hid (show b.vals.getD gv ⟨0, 0, 0⟩ = kv0 by rw [List.getD_eq_getElem?_getD, hk0.1]; rfl)
      clear hk0 b0 b3 x0 x1 x2
      obtain ⟨x0, _, _⟩ := HC3.out.cells
      go_wp2_with fail
      go_at_call 163
      refine (unless_spec M fl 225 _ _ _ (b).vals _ HM3.out.head Tryz.call225 ((table1_spec M fl (b) kv0 gv bx bi bv A n c vs w3 _ HM3.out HC3.out.x HC3.out.i HC3.out.v HC3.out.ox (by rw [HC3.out.oi]; decide) HC3.out.ov HC3.out.iv HC3.out.oa HF.out.1 HF.out.2.1 HF.out.2.2.1 HF.out.2.2.2.1 HF.out.2.2.2.2.1 HF.out.2.2.2.2.2).mono fun e w' h => ⟨h.1, h⟩)).mono ?_
      rintro e w' ⟨rfl, oz, hMz, hTz⟩
      have HMZ := Lib.hid hMz
      have HTZ := Lib.hid (HT3.out.trans hTz)
      clear hMz hTz
      go_wp2_with fail
      go_end0
      refine ⟨rfl, oz, ?_, HTZ.out⟩
      rw [HE.out]
      simp only [↓reduceIte, HV.out]
      exact HMZ.out
end Go.Proofs.YtfoifdoaleaekaaGreat
