/-
  Package encode: the calls for a key, a string, a blob; Build where Check finds an error.
  Package encode: calls of a node with flat children.
-/
import Derived.Test.YtfoifdoaleaekaaGreatQg41
namespace Go.Proofs.YtfoifdoaleaekaaGreat
open Go.RowKit Go.Acc
set_option maxRecDepth 100000 in
set_option maxHeartbeats 2000000 in
theorem leaft_spec (M : Bp) (fl : Int) (b : Bd) (k n : Int) (u : Nat) (s : List UInt8) (A : Option Addr) (an ac : Nat) (B : Option Addr) (bn bc : Nat) (w : World) (o : Nat → Nat) (h : BM M fl w o b) (hrs : RoomS b s) (hrk : RoomK b s)
    (hk : k = 5 ∨ k = 6 ∨ k = 7) (hz : k = 5 → hasZero s = false) :
    Calls Tryz.prog 124 #[.pointer (some ⟨M.β, 0, none⟩), .agg #[.int .i64 k, .int .i64 n, .int .u64 (u : Int), .string ⟨s.toArray⟩, .slice A an ac, .slice B bn bc]] w (BTo M fl (b.leaf (Go.Proofs.YtfoifdoaleaekaaGreat.bits fl) k n u s) w o) := by
  have HB := Lib.hid (show Below w.heap.size w (w.alloc (.cells #[.int .i64 k, .int .i64 n, .int .u64 (u : Int), .string ⟨s.toArray⟩, .slice A an ac, .slice B bn bc] 26)) from (Below.refl _ _).alloc (Nat.le_refl _) _)
  have HM := Lib.hid (h.pure HB.out)
  have HS := Lib.hid hrs
  have HK := Lib.hid hrk
  have HZ := Lib.hid hz
  clear h hrs hrk hz
  rcases hk with rfl | rfl | rfl
  · go_enter Tryz.func124, Tryz.ntmps124
    go_wp2_with fail
    go_at_call 122
    refine (ckey_spec M fl b s _ o HM.out HK.out (HZ.out (by first | rfl | trivial))).mono ?_
    rintro e w2 hR
    obtain rfl := hR.1
    have HR := Lib.hid (hR.from_pure HB.out)
    clear hR
    go_wp2_with fail
    go_end0
    have h := HR.out
    unfold Bd.leaf
    simpa using h
  · go_enter Tryz.func124, Tryz.ntmps124
    go_wp2_with fail
    go_at_call 186
    refine (cstr_spec M fl b s _ o HM.out HS.out).mono ?_
    rintro e w2 hR
    obtain rfl := hR.1
    have HR := Lib.hid (hR.from_pure HB.out)
    clear hR
    go_wp2_with fail
    go_end0
    have h := HR.out
    unfold Bd.leaf
    simpa using h
  · go_enter Tryz.func124, Tryz.ntmps124
    go_wp2_with fail
    go_at_call 187
    refine (cblob_spec M fl b s _ o HM.out HS.out).mono ?_
    rintro e w2 hR
    obtain rfl := hR.1
    have HR := Lib.hid (hR.from_pure HB.out)
    clear hR
    go_wp2_with fail
    go_end0
    have h := HR.out
    unfold Bd.leaf
    simpa using h
end Go.Proofs.YtfoifdoaleaekaaGreat

namespace Go.Proofs.YtfoifdoaleaekaaGreat
open Go.RowKit Go.Acc
structure ClC (M : Bp) (x : Nv) (bx bn : Nat) (w : World) (o : Nat → Nat) : Prop where
  bx_ : Blk w bx 122 #[.pointer (some ⟨M.β, 0, none⟩)]
  bn_ : Blk w bn 26 #[.int .i64 x.k, .int .i64 x.n, .int .u64 (x.u : Int), .string ⟨x.s.toArray⟩, .slice x.A x.an x.ac, .slice x.B x.bn x.bc]
  ox : o bx = 0
  on : o bn = 0
theorem ClC.to_ {M : Bp} {x : Nv} {bx bn : Nat} {w w' : World} {o o' : Nat → Nat} {I : Nat → Prop} (h : ClC M x bx bn w o) (ht : To I w o w' o') (h0 : ¬ I 0) : ClC M x bx bn w' o' :=
  ⟨h.bx_.to_ ht (by rw [h.ox]; exact h0), h.bn_.to_ ht (by rw [h.on]; exact h0), (ht.ow _ h.bx_.lt).trans h.ox, (ht.ow _ h.bn_.lt).trans h.on⟩
theorem ClC.cells {M : Bp} {x : Nv} {bx bn : Nat} {w : World} {o : Nat → Nat} (h : ClC M x bx bn w o) : w.cell? ⟨bx, 0, none⟩ = some (.pointer (some ⟨M.β, 0, none⟩)) ∧ w.cell? ⟨bn, 0, none⟩ = some (.int .i64 x.k) ∧ w.cell? ⟨bn, 1, none⟩ = some (.int .i64 x.n) ∧ w.cell? ⟨bn, 2, none⟩ = some (.int .u64 (x.u : Int)) ∧ w.cell? ⟨bn, 3, none⟩ = some (.string ⟨x.s.toArray⟩) ∧ w.cell? ⟨bn, 4, none⟩ = some (.slice x.A x.an x.ac) ∧ w.cell? ⟨bn, 5, none⟩ = some (.slice x.B x.bn x.bc) :=
  ⟨h.bx_.cell 0, h.bn_.cell 0, h.bn_.cell 1, h.bn_.cell 2, h.bn_.cell 3, h.bn_.cell 4, h.bn_.cell 5⟩
theorem clc_new (M : Bp) (x : Nv) (w : World) (o : Nat → Nat) : ClC M x w.heap.size (w.heap.size + 1) ((w.alloc (.cells #[.pointer (some ⟨M.β, 0, none⟩)] 122)).alloc (.cells #[.int .i64 x.k, .int .i64 x.n, .int .u64 (x.u : Int), .string ⟨x.s.toArray⟩, .slice x.A x.an x.ac, .slice x.B x.bn x.bc] 26)) (newO o w.heap.size 0) :=
  ⟨(Blk.new w 122 #[.pointer (some ⟨M.β, 0, none⟩)]).alloc _, blk_new2 w _ 26 #[.int .i64 x.k, .int .i64 x.n, .int .u64 (x.u : Int), .string ⟨x.s.toArray⟩, .slice x.A x.an x.ac, .slice x.B x.bn x.bc], newO_new (Nat.le_refl _), newO_new (by omega)⟩
set_option maxRecDepth 100000 in
set_option maxHeartbeats 2000000 in
theorem calls_11 (M : Bp) (fl : Int) (b : Bd) (x : Nv) (vs : List Nv) (w : World) (o : Nat → Nat) (h : BM M fl w o b) (hI : IsN w x.B x.bn vs) (hk : x.k = 11) (hn : x.bn ≤ 1000000) (hs : b.s.length < 65536) (hbd : ∀ y ∈ vs.map Nv.n, -9223372036854775808 ≤ y ∧ y ≤ 9223372036854775807) (hl : b.b.length + 40 + 9 * (vs.map Nv.n).length ≤ 1048576) :
    Calls Tryz.prog 74 #[.pointer (some ⟨M.β, 0, none⟩), .agg #[.int .i64 x.k, .int .i64 x.n, .int .u64 (x.u : Int), .string ⟨x.s.toArray⟩, .slice x.A x.an x.ac, .slice x.B x.bn x.bc]] w (BTo M fl (b.vec 11 true false ((vs.map Nv.n).map numV)) w o) := by
  obtain ⟨k, n, u, s, XA, xan, xac, XB, xbn, xbc⟩ := x
  obtain rfl : 11 = k := hk.symm
  have HN := Lib.hid hn
  have HSS := Lib.hid hs
  have HLL := Lib.hid hl
  have HBD := Lib.hid hbd
  have hB := below_two w (.cells #[.pointer (some ⟨M.β, 0, none⟩)] 122) (.cells #[.int .i64 (⟨11, n, u, s, XA, xan, xac, XB, xbn, xbc⟩ : Nv).k, .int .i64 (⟨11, n, u, s, XA, xan, xac, XB, xbn, xbc⟩ : Nv).n, .int .u64 ((⟨11, n, u, s, XA, xan, xac, XB, xbn, xbc⟩ : Nv).u : Int), .string ⟨(⟨11, n, u, s, XA, xan, xac, XB, xbn, xbc⟩ : Nv).s.toArray⟩, .slice (⟨11, n, u, s, XA, xan, xac, XB, xbn, xbc⟩ : Nv).A (⟨11, n, u, s, XA, xan, xac, XB, xbn, xbc⟩ : Nv).an (⟨11, n, u, s, XA, xan, xac, XB, xbn, xbc⟩ : Nv).ac, .slice (⟨11, n, u, s, XA, xan, xac, XB, xbn, xbc⟩ : Nv).B (⟨11, n, u, s, XA, xan, xac, XB, xbn, xbc⟩ : Nv).bn (⟨11, n, u, s, XA, xan, xac, XB, xbn, xbc⟩ : Nv).bc] 26)
  have HT0 := Lib.hid (To.fresh Bld hB o 0)
  have HM0 := Lib.hid (h.fresh hB 0)
  have HC0 := Lib.hid (clc_new M ⟨11, n, u, s, XA, xan, xac, XB, xbn, xbc⟩ w o)
  have HTO := Lib.hid (toldn_spec ⟨11, n, u, s, XA, xan, xac, XB, xbn, xbc⟩ vs _ (hI.pure hB.drew) hn)
  clear h hI hk hn hs hl hbd hB
  go_enter Tryz.func74, Tryz.ntmps74
  go_upto_region 1 with fail
  generalize (w.alloc (.cells #[.pointer (some ⟨M.β, 0, none⟩)] 122)).alloc (.cells #[.int .i64 (⟨11, n, u, s, XA, xan, xac, XB, xbn, xbc⟩ : Nv).k, .int .i64 (⟨11, n, u, s, XA, xan, xac, XB, xbn, xbc⟩ : Nv).n, .int .u64 ((⟨11, n, u, s, XA, xan, xac, XB, xbn, xbc⟩ : Nv).u : Int), .string ⟨(⟨11, n, u, s, XA, xan, xac, XB, xbn, xbc⟩ : Nv).s.toArray⟩, .slice (⟨11, n, u, s, XA, xan, xac, XB, xbn, xbc⟩ : Nv).A (⟨11, n, u, s, XA, xan, xac, XB, xbn, xbc⟩ : Nv).an (⟨11, n, u, s, XA, xan, xac, XB, xbn, xbc⟩ : Nv).ac, .slice (⟨11, n, u, s, XA, xan, xac, XB, xbn, xbc⟩ : Nv).B (⟨11, n, u, s, XA, xan, xac, XB, xbn, xbc⟩ : Nv).bn (⟨11, n, u, s, XA, xan, xac, XB, xbn, xbc⟩ : Nv).bc] 26) = w1 at HT0 HM0 HC0 HTO ⊢
  generalize newO o w.heap.size 0 = o1 at HT0 HM0 HC0
  generalize w.heap.size + 1 = bn at HC0 ⊢
  generalize w.heap.size = bx at HC0 ⊢
  obtain ⟨x0, x1, x2, x3, x4, x5, x6⟩ := HC0.out.cells
  go_wp2_with fail
  go_region_held3 (fun w' => w'.cell? ⟨bx, 0, none⟩ = some (.pointer (some ⟨M.β, 0, none⟩)) ∧ w'.cell? ⟨bn, 0, none⟩ = some (.int .i64 11) ∧ w'.cell? ⟨bn, 1, none⟩ = some (.int .i64 n) ∧ w'.cell? ⟨bn, 2, none⟩ = some (.int .u64 (u : Int)) ∧ w'.cell? ⟨bn, 3, none⟩ = some (.string ⟨s.toArray⟩) ∧ w'.cell? ⟨bn, 4, none⟩ = some (.slice XA xan xac) ∧ w'.cell? ⟨bn, 5, none⟩ = some (.slice XB xbn xbc)) (first | with_reducible exact ⟨x0, x1, x2, x3, x4, x5, x6⟩ | with_reducible exact ⟨kdrew x0, kdrew x1, kdrew x2, kdrew x3, kdrew x4, kdrew x5, kdrew x6⟩ | with_reducible exact ⟨y0, y1, y2, y3, y4, y5, y6⟩ | with_reducible exact ⟨z0, z1, z2, z3, z4, z5, z6⟩) (first
    | (go_at_call 105; (with_reducible refine HTO.out.mono ?_); rintro e wa ⟨A, c, rfl, hO, hb⟩; have hb' : Below w1.heap.size w1 wa := ((Below.refl w1.heap.size w1).drew).trans hb; have hca := HC0.out.to_ (To.fresh Bld hb' o1 0) bld_0; obtain ⟨y0, y1, y2, y3, y4, y5, y6⟩ := hca.cells; have HCA := Lib.hid hca; have HMA := Lib.hid (HM0.out.fresh hb' 0); have HTA := Lib.hid (HT0.out.trans (To.fresh Bld hb' o1 0)); have HIA := Lib.hid hO.is; have HOA := Lib.hid (show ∀ ad, A = some ad → ad.block < wa.heap.size ∧ newO o1 w1.heap.size 0 ad.block = 0 from fun ad e => ⟨(hO.addr ad e).2.2, newO_new (hO.addr ad e).2.1⟩); clear hO hb hb' hca)
    | (go_at_call 104; (with_reducible refine (ints_spec M fl b A xbn c (vs.map Nv.n) wa _ HMA.out HIA.out HN.out HSS.out HBD.out HLL.out).mono ?_); rintro e wz ⟨rfl, oz, hMz, hTz⟩; obtain ⟨z0, z1, z2, z3, z4, z5, z6⟩ := (HCA.out.to_ hTz bld_0).cells; have HMZ := Lib.hid hMz; have HTZ := Lib.hid (HTA.out.trans hTz); clear hMz hTz))
  go_wp2_with fail
  go_end0
  refine ⟨rfl, oz, ?_, HTZ.out⟩
  rw [← List.map_map]
  exact HMZ.out
set_option maxRecDepth 100000 in
set_option maxHeartbeats 2000000 in
theorem calls_12 (M : Bp) (fl : Int) (b : Bd) (x : Nv) (vs : List Nv) (w : World) (o : Nat → Nat) (h : BM M fl w o b) (hI : IsN w x.B x.bn vs) (hk : x.k = 12) (hn : x.bn ≤ 1000000) (hs : b.s.length < 65536) (hbd : ∀ y ∈ vs.map Nv.u, y < 18446744073709551616) (hl : b.b.length + 40 + 9 * (vs.map Nv.u).length ≤ 1048576) :
    Calls Tryz.prog 74 #[.pointer (some ⟨M.β, 0, none⟩), .agg #[.int .i64 x.k, .int .i64 x.n, .int .u64 (x.u : Int), .string ⟨x.s.toArray⟩, .slice x.A x.an x.ac, .slice x.B x.bn x.bc]] w (BTo M fl (b.vec 12 true false ((vs.map Nv.u).map unsV)) w o) := by
  obtain ⟨k, n, u, s, XA, xan, xac, XB, xbn, xbc⟩ := x
  obtain rfl : 12 = k := hk.symm
  have HN := Lib.hid hn
  have HSS := Lib.hid hs
  have HLL := Lib.hid hl
  have HBD := Lib.hid hbd
  have hB := below_two w (.cells #[.pointer (some ⟨M.β, 0, none⟩)] 122) (.cells #[.int .i64 (⟨12, n, u, s, XA, xan, xac, XB, xbn, xbc⟩ : Nv).k, .int .i64 (⟨12, n, u, s, XA, xan, xac, XB, xbn, xbc⟩ : Nv).n, .int .u64 ((⟨12, n, u, s, XA, xan, xac, XB, xbn, xbc⟩ : Nv).u : Int), .string ⟨(⟨12, n, u, s, XA, xan, xac, XB, xbn, xbc⟩ : Nv).s.toArray⟩, .slice (⟨12, n, u, s, XA, xan, xac, XB, xbn, xbc⟩ : Nv).A (⟨12, n, u, s, XA, xan, xac, XB, xbn, xbc⟩ : Nv).an (⟨12, n, u, s, XA, xan, xac, XB, xbn, xbc⟩ : Nv).ac, .slice (⟨12, n, u, s, XA, xan, xac, XB, xbn, xbc⟩ : Nv).B (⟨12, n, u, s, XA, xan, xac, XB, xbn, xbc⟩ : Nv).bn (⟨12, n, u, s, XA, xan, xac, XB, xbn, xbc⟩ : Nv).bc] 26)
  have HT0 := Lib.hid (To.fresh Bld hB o 0)
  have HM0 := Lib.hid (h.fresh hB 0)
  have HC0 := Lib.hid (clc_new M ⟨12, n, u, s, XA, xan, xac, XB, xbn, xbc⟩ w o)
  have HTO := Lib.hid (toldu_spec ⟨12, n, u, s, XA, xan, xac, XB, xbn, xbc⟩ vs _ (hI.pure hB.drew) hn)
  clear h hI hk hn hs hl hbd hB
  go_enter Tryz.func74, Tryz.ntmps74
  go_upto_region 1 with fail
  generalize (w.alloc (.cells #[.pointer (some ⟨M.β, 0, none⟩)] 122)).alloc (.cells #[.int .i64 (⟨12, n, u, s, XA, xan, xac, XB, xbn, xbc⟩ : Nv).k, .int .i64 (⟨12, n, u, s, XA, xan, xac, XB, xbn, xbc⟩ : Nv).n, .int .u64 ((⟨12, n, u, s, XA, xan, xac, XB, xbn, xbc⟩ : Nv).u : Int), .string ⟨(⟨12, n, u, s, XA, xan, xac, XB, xbn, xbc⟩ : Nv).s.toArray⟩, .slice (⟨12, n, u, s, XA, xan, xac, XB, xbn, xbc⟩ : Nv).A (⟨12, n, u, s, XA, xan, xac, XB, xbn, xbc⟩ : Nv).an (⟨12, n, u, s, XA, xan, xac, XB, xbn, xbc⟩ : Nv).ac, .slice (⟨12, n, u, s, XA, xan, xac, XB, xbn, xbc⟩ : Nv).B (⟨12, n, u, s, XA, xan, xac, XB, xbn, xbc⟩ : Nv).bn (⟨12, n, u, s, XA, xan, xac, XB, xbn, xbc⟩ : Nv).bc] 26) = w1 at HT0 HM0 HC0 HTO ⊢
  generalize newO o w.heap.size 0 = o1 at HT0 HM0 HC0
  generalize w.heap.size + 1 = bn at HC0 ⊢
  generalize w.heap.size = bx at HC0 ⊢
  obtain ⟨x0, x1, x2, x3, x4, x5, x6⟩ := HC0.out.cells
  go_wp2_with fail
  go_region_held3 (fun w' => w'.cell? ⟨bx, 0, none⟩ = some (.pointer (some ⟨M.β, 0, none⟩)) ∧ w'.cell? ⟨bn, 0, none⟩ = some (.int .i64 12) ∧ w'.cell? ⟨bn, 1, none⟩ = some (.int .i64 n) ∧ w'.cell? ⟨bn, 2, none⟩ = some (.int .u64 (u : Int)) ∧ w'.cell? ⟨bn, 3, none⟩ = some (.string ⟨s.toArray⟩) ∧ w'.cell? ⟨bn, 4, none⟩ = some (.slice XA xan xac) ∧ w'.cell? ⟨bn, 5, none⟩ = some (.slice XB xbn xbc)) (first | with_reducible exact ⟨x0, x1, x2, x3, x4, x5, x6⟩ | with_reducible exact ⟨kdrew x0, kdrew x1, kdrew x2, kdrew x3, kdrew x4, kdrew x5, kdrew x6⟩ | with_reducible exact ⟨y0, y1, y2, y3, y4, y5, y6⟩ | with_reducible exact ⟨z0, z1, z2, z3, z4, z5, z6⟩) (first
    | (go_at_call 108; (with_reducible refine HTO.out.mono ?_); rintro e wa ⟨A, c, rfl, hO, hb⟩; have hb' : Below w1.heap.size w1 wa := ((Below.refl w1.heap.size w1).drew).trans hb; have hca := HC0.out.to_ (To.fresh Bld hb' o1 0) bld_0; obtain ⟨y0, y1, y2, y3, y4, y5, y6⟩ := hca.cells; have HCA := Lib.hid hca; have HMA := Lib.hid (HM0.out.fresh hb' 0); have HTA := Lib.hid (HT0.out.trans (To.fresh Bld hb' o1 0)); have HIA := Lib.hid hO.is; have HOA := Lib.hid (show ∀ ad, A = some ad → ad.block < wa.heap.size ∧ newO o1 w1.heap.size 0 ad.block = 0 from fun ad e => ⟨(hO.addr ad e).2.2, newO_new (hO.addr ad e).2.1⟩); clear hO hb hb' hca)
    | (go_at_call 107; (with_reducible refine (uints_spec M fl b A xbn c (vs.map Nv.u) wa _ HMA.out HIA.out HN.out HSS.out HBD.out HLL.out).mono ?_); rintro e wz ⟨rfl, oz, hMz, hTz⟩; obtain ⟨z0, z1, z2, z3, z4, z5, z6⟩ := (HCA.out.to_ hTz bld_0).cells; have HMZ := Lib.hid hMz; have HTZ := Lib.hid (HTA.out.trans hTz); clear hMz hTz))
  go_wp2_with fail
  go_end0
  refine ⟨rfl, oz, ?_, HTZ.out⟩
  rw [← List.map_map]
  exact HMZ.out
set_option maxRecDepth 100000 in
set_option maxHeartbeats 2000000 in
theorem calls_14 (M : Bp) (fl : Int) (b : Bd) (x : Nv) (vs : List Nv) (w : World) (o : Nat → Nat) (h : BM M fl w o b) (hI : IsN w x.B x.bn vs) (hk : x.k = 14) (hn : x.bn ≤ 1000000) (hs : b.s.length < 65536) (hbd : ∀ y ∈ vs.map (fun v : Nv => decide (v.n = 1)), y = true ∨ y = false) (hl : b.b.length + 40 + 9 * (vs.map (fun v : Nv => decide (v.n = 1))).length ≤ 1048576) :
    Calls Tryz.prog 74 #[.pointer (some ⟨M.β, 0, none⟩), .agg #[.int .i64 x.k, .int .i64 x.n, .int .u64 (x.u : Int), .string ⟨x.s.toArray⟩, .slice x.A x.an x.ac, .slice x.B x.bn x.bc]] w (BTo M fl (b.vec 36 true false ((vs.map (fun v : Nv => decide (v.n = 1))).map boolV)) w o) := by
  obtain ⟨k, n, u, s, XA, xan, xac, XB, xbn, xbc⟩ := x
  obtain rfl : 14 = k := hk.symm
  have HN := Lib.hid hn
  have HSS := Lib.hid hs
  have HLL := Lib.hid hl
  have HBD := Lib.hid hbd
  have hB := below_two w (.cells #[.pointer (some ⟨M.β, 0, none⟩)] 122) (.cells #[.int .i64 (⟨14, n, u, s, XA, xan, xac, XB, xbn, xbc⟩ : Nv).k, .int .i64 (⟨14, n, u, s, XA, xan, xac, XB, xbn, xbc⟩ : Nv).n, .int .u64 ((⟨14, n, u, s, XA, xan, xac, XB, xbn, xbc⟩ : Nv).u : Int), .string ⟨(⟨14, n, u, s, XA, xan, xac, XB, xbn, xbc⟩ : Nv).s.toArray⟩, .slice (⟨14, n, u, s, XA, xan, xac, XB, xbn, xbc⟩ : Nv).A (⟨14, n, u, s, XA, xan, xac, XB, xbn, xbc⟩ : Nv).an (⟨14, n, u, s, XA, xan, xac, XB, xbn, xbc⟩ : Nv).ac, .slice (⟨14, n, u, s, XA, xan, xac, XB, xbn, xbc⟩ : Nv).B (⟨14, n, u, s, XA, xan, xac, XB, xbn, xbc⟩ : Nv).bn (⟨14, n, u, s, XA, xan, xac, XB, xbn, xbc⟩ : Nv).bc] 26)
  have HT0 := Lib.hid (To.fresh Bld hB o 0)
  have HM0 := Lib.hid (h.fresh hB 0)
  have HC0 := Lib.hid (clc_new M ⟨14, n, u, s, XA, xan, xac, XB, xbn, xbc⟩ w o)
  have HTO := Lib.hid (toldb_spec ⟨14, n, u, s, XA, xan, xac, XB, xbn, xbc⟩ vs _ (hI.pure hB.drew) hn)
  clear h hI hk hn hs hl hbd hB
  go_enter Tryz.func74, Tryz.ntmps74
  go_upto_region 1 with fail
  generalize (w.alloc (.cells #[.pointer (some ⟨M.β, 0, none⟩)] 122)).alloc (.cells #[.int .i64 (⟨14, n, u, s, XA, xan, xac, XB, xbn, xbc⟩ : Nv).k, .int .i64 (⟨14, n, u, s, XA, xan, xac, XB, xbn, xbc⟩ : Nv).n, .int .u64 ((⟨14, n, u, s, XA, xan, xac, XB, xbn, xbc⟩ : Nv).u : Int), .string ⟨(⟨14, n, u, s, XA, xan, xac, XB, xbn, xbc⟩ : Nv).s.toArray⟩, .slice (⟨14, n, u, s, XA, xan, xac, XB, xbn, xbc⟩ : Nv).A (⟨14, n, u, s, XA, xan, xac, XB, xbn, xbc⟩ : Nv).an (⟨14, n, u, s, XA, xan, xac, XB, xbn, xbc⟩ : Nv).ac, .slice (⟨14, n, u, s, XA, xan, xac, XB, xbn, xbc⟩ : Nv).B (⟨14, n, u, s, XA, xan, xac, XB, xbn, xbc⟩ : Nv).bn (⟨14, n, u, s, XA, xan, xac, XB, xbn, xbc⟩ : Nv).bc] 26) = w1 at HT0 HM0 HC0 HTO ⊢
  generalize newO o w.heap.size 0 = o1 at HT0 HM0 HC0
  generalize w.heap.size + 1 = bn at HC0 ⊢
  generalize w.heap.size = bx at HC0 ⊢
  obtain ⟨x0, x1, x2, x3, x4, x5, x6⟩ := HC0.out.cells
  go_wp2_with fail
  go_region_held3 (fun w' => w'.cell? ⟨bx, 0, none⟩ = some (.pointer (some ⟨M.β, 0, none⟩)) ∧ w'.cell? ⟨bn, 0, none⟩ = some (.int .i64 14) ∧ w'.cell? ⟨bn, 1, none⟩ = some (.int .i64 n) ∧ w'.cell? ⟨bn, 2, none⟩ = some (.int .u64 (u : Int)) ∧ w'.cell? ⟨bn, 3, none⟩ = some (.string ⟨s.toArray⟩) ∧ w'.cell? ⟨bn, 4, none⟩ = some (.slice XA xan xac) ∧ w'.cell? ⟨bn, 5, none⟩ = some (.slice XB xbn xbc)) (first | with_reducible exact ⟨x0, x1, x2, x3, x4, x5, x6⟩ | with_reducible exact ⟨kdrew x0, kdrew x1, kdrew x2, kdrew x3, kdrew x4, kdrew x5, kdrew x6⟩ | with_reducible exact ⟨y0, y1, y2, y3, y4, y5, y6⟩ | with_reducible exact ⟨z0, z1, z2, z3, z4, z5, z6⟩) (first
    | (go_at_call 111; (with_reducible refine HTO.out.mono ?_); rintro e wa ⟨A, c, rfl, hO, hb⟩; have hb' : Below w1.heap.size w1 wa := ((Below.refl w1.heap.size w1).drew).trans hb; have hca := HC0.out.to_ (To.fresh Bld hb' o1 0) bld_0; obtain ⟨y0, y1, y2, y3, y4, y5, y6⟩ := hca.cells; have HCA := Lib.hid hca; have HMA := Lib.hid (HM0.out.fresh hb' 0); have HTA := Lib.hid (HT0.out.trans (To.fresh Bld hb' o1 0)); have HIA := Lib.hid hO.is; have HOA := Lib.hid (show ∀ ad, A = some ad → ad.block < wa.heap.size ∧ newO o1 w1.heap.size 0 ad.block = 0 from fun ad e => ⟨(hO.addr ad e).2.2, newO_new (hO.addr ad e).2.1⟩); clear hO hb hb' hca)
    | (go_at_call 110; (with_reducible refine (bools_spec M fl b A xbn c (vs.map (fun v : Nv => decide (v.n = 1))) wa _ HMA.out HIA.out HN.out HSS.out HBD.out HLL.out).mono ?_); rintro e wz ⟨rfl, oz, hMz, hTz⟩; obtain ⟨z0, z1, z2, z3, z4, z5, z6⟩ := (HCA.out.to_ hTz bld_0).cells; have HMZ := Lib.hid hMz; have HTZ := Lib.hid (HTA.out.trans hTz); clear hMz hTz))
  go_wp2_with fail
  go_end0
  refine ⟨rfl, oz, ?_, HTZ.out⟩
  exact HMZ.out
set_option maxRecDepth 100000 in
set_option maxHeartbeats 2000000 in
theorem calls_15 (M : Bp) (fl : Int) (b : Bd) (x : Nv) (vs : List Nv) (w : World) (o : Nat → Nat) (h : BM M fl w o b) (hI : IsN w x.B x.bn vs) (hk : x.k = 15) (hn3 : x.bn = 2 ∨ x.bn = 3 ∨ x.bn = 4) (hs : b.s.length < 65536) (hbd : ∀ y ∈ vs.map Nv.n, -9223372036854775808 ≤ y ∧ y ≤ 9223372036854775807) (hl : b.b.length + 40 + 9 * (vs.map Nv.n).length ≤ 1048576) :
    Calls Tryz.prog 74 #[.pointer (some ⟨M.β, 0, none⟩), .agg #[.int .i64 x.k, .int .i64 x.n, .int .u64 (x.u : Int), .string ⟨x.s.toArray⟩, .slice x.A x.an x.ac, .slice x.B x.bn x.bc]] w (BTo M fl (b.vec (10 + 3 * x.bn) false false ((vs.map Nv.n).map numV)) w o) := by
  have HN3 := Lib.hid hn3
  have hn : x.bn ≤ 1000000 := by omega
  clear hn3
  obtain ⟨k, n, u, s, XA, xan, xac, XB, xbn, xbc⟩ := x
  obtain rfl : 15 = k := hk.symm
  have HN := Lib.hid hn
  have HSS := Lib.hid hs
  have HLL := Lib.hid hl
  have HBD := Lib.hid hbd
  have hB := below_two w (.cells #[.pointer (some ⟨M.β, 0, none⟩)] 122) (.cells #[.int .i64 (⟨15, n, u, s, XA, xan, xac, XB, xbn, xbc⟩ : Nv).k, .int .i64 (⟨15, n, u, s, XA, xan, xac, XB, xbn, xbc⟩ : Nv).n, .int .u64 ((⟨15, n, u, s, XA, xan, xac, XB, xbn, xbc⟩ : Nv).u : Int), .string ⟨(⟨15, n, u, s, XA, xan, xac, XB, xbn, xbc⟩ : Nv).s.toArray⟩, .slice (⟨15, n, u, s, XA, xan, xac, XB, xbn, xbc⟩ : Nv).A (⟨15, n, u, s, XA, xan, xac, XB, xbn, xbc⟩ : Nv).an (⟨15, n, u, s, XA, xan, xac, XB, xbn, xbc⟩ : Nv).ac, .slice (⟨15, n, u, s, XA, xan, xac, XB, xbn, xbc⟩ : Nv).B (⟨15, n, u, s, XA, xan, xac, XB, xbn, xbc⟩ : Nv).bn (⟨15, n, u, s, XA, xan, xac, XB, xbn, xbc⟩ : Nv).bc] 26)
  have HT0 := Lib.hid (To.fresh Bld hB o 0)
  have HM0 := Lib.hid (h.fresh hB 0)
  have HC0 := Lib.hid (clc_new M ⟨15, n, u, s, XA, xan, xac, XB, xbn, xbc⟩ w o)
  have HTO := Lib.hid (toldn_spec ⟨15, n, u, s, XA, xan, xac, XB, xbn, xbc⟩ vs _ (hI.pure hB.drew) hn)
  clear h hI hk hn hs hl hbd hB
  go_enter Tryz.func74, Tryz.ntmps74
  go_upto_region 1 with fail
  generalize (w.alloc (.cells #[.pointer (some ⟨M.β, 0, none⟩)] 122)).alloc (.cells #[.int .i64 (⟨15, n, u, s, XA, xan, xac, XB, xbn, xbc⟩ : Nv).k, .int .i64 (⟨15, n, u, s, XA, xan, xac, XB, xbn, xbc⟩ : Nv).n, .int .u64 ((⟨15, n, u, s, XA, xan, xac, XB, xbn, xbc⟩ : Nv).u : Int), .string ⟨(⟨15, n, u, s, XA, xan, xac, XB, xbn, xbc⟩ : Nv).s.toArray⟩, .slice (⟨15, n, u, s, XA, xan, xac, XB, xbn, xbc⟩ : Nv).A (⟨15, n, u, s, XA, xan, xac, XB, xbn, xbc⟩ : Nv).an (⟨15, n, u, s, XA, xan, xac, XB, xbn, xbc⟩ : Nv).ac, .slice (⟨15, n, u, s, XA, xan, xac, XB, xbn, xbc⟩ : Nv).B (⟨15, n, u, s, XA, xan, xac, XB, xbn, xbc⟩ : Nv).bn (⟨15, n, u, s, XA, xan, xac, XB, xbn, xbc⟩ : Nv).bc] 26) = w1 at HT0 HM0 HC0 HTO ⊢
  generalize newO o w.heap.size 0 = o1 at HT0 HM0 HC0
  generalize w.heap.size + 1 = bn at HC0 ⊢
  generalize w.heap.size = bx at HC0 ⊢
  obtain ⟨x0, x1, x2, x3, x4, x5, x6⟩ := HC0.out.cells
  go_wp2_with fail
  go_region_held3 (fun w' => w'.cell? ⟨bx, 0, none⟩ = some (.pointer (some ⟨M.β, 0, none⟩)) ∧ w'.cell? ⟨bn, 0, none⟩ = some (.int .i64 15) ∧ w'.cell? ⟨bn, 1, none⟩ = some (.int .i64 n) ∧ w'.cell? ⟨bn, 2, none⟩ = some (.int .u64 (u : Int)) ∧ w'.cell? ⟨bn, 3, none⟩ = some (.string ⟨s.toArray⟩) ∧ w'.cell? ⟨bn, 4, none⟩ = some (.slice XA xan xac) ∧ w'.cell? ⟨bn, 5, none⟩ = some (.slice XB xbn xbc)) (first | with_reducible exact ⟨x0, x1, x2, x3, x4, x5, x6⟩ | with_reducible exact ⟨kdrew x0, kdrew x1, kdrew x2, kdrew x3, kdrew x4, kdrew x5, kdrew x6⟩ | with_reducible exact ⟨y0, y1, y2, y3, y4, y5, y6⟩ | with_reducible exact ⟨z0, z1, z2, z3, z4, z5, z6⟩) (first
    | (go_at_call 105; (with_reducible refine HTO.out.mono ?_); rintro e wa ⟨A, c, rfl, hO, hb⟩; have hb' : Below w1.heap.size w1 wa := ((Below.refl w1.heap.size w1).drew).trans hb; have hca := HC0.out.to_ (To.fresh Bld hb' o1 0) bld_0; obtain ⟨y0, y1, y2, y3, y4, y5, y6⟩ := hca.cells; have HCA := Lib.hid hca; have HMA := Lib.hid (HM0.out.fresh hb' 0); have HTA := Lib.hid (HT0.out.trans (To.fresh Bld hb' o1 0)); have HIA := Lib.hid hO.is; have HOA := Lib.hid (show ∀ ad, A = some ad → ad.block < wa.heap.size ∧ newO o1 w1.heap.size 0 ad.block = 0 from fun ad e => ⟨(hO.addr ad e).2.2, newO_new (hO.addr ad e).2.1⟩); clear hO hb hb' hca)
    | (go_at_call 116; (with_reducible refine (fixints_spec M fl b A xbn c (vs.map Nv.n) wa _ HMA.out HIA.out HN3.out HSS.out HBD.out HLL.out).mono ?_); rintro e wz ⟨rfl, oz, hMz, hTz⟩; obtain ⟨z0, z1, z2, z3, z4, z5, z6⟩ := (HCA.out.to_ hTz bld_0).cells; have HMZ := Lib.hid hMz; have HTZ := Lib.hid (HTA.out.trans hTz); clear hMz hTz))
  go_wp2_with fail
  go_end0
  refine ⟨rfl, oz, ?_, HTZ.out⟩
  rw [← List.map_map]
  exact HMZ.out
set_option maxRecDepth 100000 in
set_option maxHeartbeats 2000000 in
theorem calls_16 (M : Bp) (fl : Int) (b : Bd) (x : Nv) (vs : List Nv) (w : World) (o : Nat → Nat) (h : BM M fl w o b) (hI : IsN w x.B x.bn vs) (hk : x.k = 16) (hn3 : x.bn = 2 ∨ x.bn = 3 ∨ x.bn = 4) (hs : b.s.length < 65536) (hbd : ∀ y ∈ vs.map Nv.u, y < 18446744073709551616) (hl : b.b.length + 40 + 9 * (vs.map Nv.u).length ≤ 1048576) :
    Calls Tryz.prog 74 #[.pointer (some ⟨M.β, 0, none⟩), .agg #[.int .i64 x.k, .int .i64 x.n, .int .u64 (x.u : Int), .string ⟨x.s.toArray⟩, .slice x.A x.an x.ac, .slice x.B x.bn x.bc]] w (BTo M fl (b.vec (11 + 3 * x.bn) false false ((vs.map Nv.u).map unsV)) w o) := by
  have HN3 := Lib.hid hn3
  have hn : x.bn ≤ 1000000 := by omega
  clear hn3
  obtain ⟨k, n, u, s, XA, xan, xac, XB, xbn, xbc⟩ := x
  obtain rfl : 16 = k := hk.symm
  have HN := Lib.hid hn
  have HSS := Lib.hid hs
  have HLL := Lib.hid hl
  have HBD := Lib.hid hbd
  have hB := below_two w (.cells #[.pointer (some ⟨M.β, 0, none⟩)] 122) (.cells #[.int .i64 (⟨16, n, u, s, XA, xan, xac, XB, xbn, xbc⟩ : Nv).k, .int .i64 (⟨16, n, u, s, XA, xan, xac, XB, xbn, xbc⟩ : Nv).n, .int .u64 ((⟨16, n, u, s, XA, xan, xac, XB, xbn, xbc⟩ : Nv).u : Int), .string ⟨(⟨16, n, u, s, XA, xan, xac, XB, xbn, xbc⟩ : Nv).s.toArray⟩, .slice (⟨16, n, u, s, XA, xan, xac, XB, xbn, xbc⟩ : Nv).A (⟨16, n, u, s, XA, xan, xac, XB, xbn, xbc⟩ : Nv).an (⟨16, n, u, s, XA, xan, xac, XB, xbn, xbc⟩ : Nv).ac, .slice (⟨16, n, u, s, XA, xan, xac, XB, xbn, xbc⟩ : Nv).B (⟨16, n, u, s, XA, xan, xac, XB, xbn, xbc⟩ : Nv).bn (⟨16, n, u, s, XA, xan, xac, XB, xbn, xbc⟩ : Nv).bc] 26)
  have HT0 := Lib.hid (To.fresh Bld hB o 0)
  have HM0 := Lib.hid (h.fresh hB 0)
  have HC0 := Lib.hid (clc_new M ⟨16, n, u, s, XA, xan, xac, XB, xbn, xbc⟩ w o)
  have HTO := Lib.hid (toldu_spec ⟨16, n, u, s, XA, xan, xac, XB, xbn, xbc⟩ vs _ (hI.pure hB.drew) hn)
  clear h hI hk hn hs hl hbd hB
  go_enter Tryz.func74, Tryz.ntmps74
  go_upto_region 1 with fail
  generalize (w.alloc (.cells #[.pointer (some ⟨M.β, 0, none⟩)] 122)).alloc (.cells #[.int .i64 (⟨16, n, u, s, XA, xan, xac, XB, xbn, xbc⟩ : Nv).k, .int .i64 (⟨16, n, u, s, XA, xan, xac, XB, xbn, xbc⟩ : Nv).n, .int .u64 ((⟨16, n, u, s, XA, xan, xac, XB, xbn, xbc⟩ : Nv).u : Int), .string ⟨(⟨16, n, u, s, XA, xan, xac, XB, xbn, xbc⟩ : Nv).s.toArray⟩, .slice (⟨16, n, u, s, XA, xan, xac, XB, xbn, xbc⟩ : Nv).A (⟨16, n, u, s, XA, xan, xac, XB, xbn, xbc⟩ : Nv).an (⟨16, n, u, s, XA, xan, xac, XB, xbn, xbc⟩ : Nv).ac, .slice (⟨16, n, u, s, XA, xan, xac, XB, xbn, xbc⟩ : Nv).B (⟨16, n, u, s, XA, xan, xac, XB, xbn, xbc⟩ : Nv).bn (⟨16, n, u, s, XA, xan, xac, XB, xbn, xbc⟩ : Nv).bc] 26) = w1 at HT0 HM0 HC0 HTO ⊢
  generalize newO o w.heap.size 0 = o1 at HT0 HM0 HC0
  generalize w.heap.size + 1 = bn at HC0 ⊢
  generalize w.heap.size = bx at HC0 ⊢
  obtain ⟨x0, x1, x2, x3, x4, x5, x6⟩ := HC0.out.cells
  go_wp2_with fail
  go_region_held3 (fun w' => w'.cell? ⟨bx, 0, none⟩ = some (.pointer (some ⟨M.β, 0, none⟩)) ∧ w'.cell? ⟨bn, 0, none⟩ = some (.int .i64 16) ∧ w'.cell? ⟨bn, 1, none⟩ = some (.int .i64 n) ∧ w'.cell? ⟨bn, 2, none⟩ = some (.int .u64 (u : Int)) ∧ w'.cell? ⟨bn, 3, none⟩ = some (.string ⟨s.toArray⟩) ∧ w'.cell? ⟨bn, 4, none⟩ = some (.slice XA xan xac) ∧ w'.cell? ⟨bn, 5, none⟩ = some (.slice XB xbn xbc)) (first | with_reducible exact ⟨x0, x1, x2, x3, x4, x5, x6⟩ | with_reducible exact ⟨kdrew x0, kdrew x1, kdrew x2, kdrew x3, kdrew x4, kdrew x5, kdrew x6⟩ | with_reducible exact ⟨y0, y1, y2, y3, y4, y5, y6⟩ | with_reducible exact ⟨z0, z1, z2, z3, z4, z5, z6⟩) (first
    | (go_at_call 108; (with_reducible refine HTO.out.mono ?_); rintro e wa ⟨A, c, rfl, hO, hb⟩; have hb' : Below w1.heap.size w1 wa := ((Below.refl w1.heap.size w1).drew).trans hb; have hca := HC0.out.to_ (To.fresh Bld hb' o1 0) bld_0; obtain ⟨y0, y1, y2, y3, y4, y5, y6⟩ := hca.cells; have HCA := Lib.hid hca; have HMA := Lib.hid (HM0.out.fresh hb' 0); have HTA := Lib.hid (HT0.out.trans (To.fresh Bld hb' o1 0)); have HIA := Lib.hid hO.is; have HOA := Lib.hid (show ∀ ad, A = some ad → ad.block < wa.heap.size ∧ newO o1 w1.heap.size 0 ad.block = 0 from fun ad e => ⟨(hO.addr ad e).2.2, newO_new (hO.addr ad e).2.1⟩); clear hO hb hb' hca)
    | (go_at_call 117; (with_reducible refine (fixuints_spec M fl b A xbn c (vs.map Nv.u) wa _ HMA.out HIA.out HN3.out HSS.out HBD.out HLL.out).mono ?_); rintro e wz ⟨rfl, oz, hMz, hTz⟩; obtain ⟨z0, z1, z2, z3, z4, z5, z6⟩ := (HCA.out.to_ hTz bld_0).cells; have HMZ := Lib.hid hMz; have HTZ := Lib.hid (HTA.out.trans hTz); clear hMz hTz))
  go_wp2_with fail
  go_end0
  refine ⟨rfl, oz, ?_, HTZ.out⟩
  rw [← List.map_map]
  exact HMZ.out
set_option maxRecDepth 100000 in
set_option maxHeartbeats 2000000 in
theorem calls_13 (M : Bp) (fl : Int) (b : Bd) (x : Nv) (vs : List Nv) (w : World) (o : Nat → Nat) (h : BM M fl w o b) (hI : IsN w x.B x.bn vs) (hk : x.k = 13) (hn : x.bn ≤ 1000000) (hs : RoomL b (vs.map Nv.s)) (hbd : ∀ y ∈ vs.map Nv.s, hasZero y = false) (hl : Good b ∧ b.b.length + keysCost (vs.map Nv.s) + 40 + 9 * (vs.map Nv.s).length ≤ 1048576) :
    Calls Tryz.prog 74 #[.pointer (some ⟨M.β, 0, none⟩), .agg #[.int .i64 x.k, .int .i64 x.n, .int .u64 (x.u : Int), .string ⟨x.s.toArray⟩, .slice x.A x.an x.ac, .slice x.B x.bn x.bc]] w (BTo M fl ((b.puts (Go.Proofs.YtfoifdoaleaekaaGreat.bits fl) (vs.map Nv.s)).1.vec 14 true false (b.puts (Go.Proofs.YtfoifdoaleaekaaGreat.bits fl) (vs.map Nv.s)).2) w o) := by
  obtain ⟨k, n, u, s, XA, xan, xac, XB, xbn, xbc⟩ := x
  obtain rfl : 13 = k := hk.symm
  have HN := Lib.hid hn
  have HSS := Lib.hid hs
  have HLL := Lib.hid hl
  have HBD := Lib.hid hbd
  have hB := below_two w (.cells #[.pointer (some ⟨M.β, 0, none⟩)] 122) (.cells #[.int .i64 (⟨13, n, u, s, XA, xan, xac, XB, xbn, xbc⟩ : Nv).k, .int .i64 (⟨13, n, u, s, XA, xan, xac, XB, xbn, xbc⟩ : Nv).n, .int .u64 ((⟨13, n, u, s, XA, xan, xac, XB, xbn, xbc⟩ : Nv).u : Int), .string ⟨(⟨13, n, u, s, XA, xan, xac, XB, xbn, xbc⟩ : Nv).s.toArray⟩, .slice (⟨13, n, u, s, XA, xan, xac, XB, xbn, xbc⟩ : Nv).A (⟨13, n, u, s, XA, xan, xac, XB, xbn, xbc⟩ : Nv).an (⟨13, n, u, s, XA, xan, xac, XB, xbn, xbc⟩ : Nv).ac, .slice (⟨13, n, u, s, XA, xan, xac, XB, xbn, xbc⟩ : Nv).B (⟨13, n, u, s, XA, xan, xac, XB, xbn, xbc⟩ : Nv).bn (⟨13, n, u, s, XA, xan, xac, XB, xbn, xbc⟩ : Nv).bc] 26)
  have HT0 := Lib.hid (To.fresh Bld hB o 0)
  have HM0 := Lib.hid (h.fresh hB 0)
  have HC0 := Lib.hid (clc_new M ⟨13, n, u, s, XA, xan, xac, XB, xbn, xbc⟩ w o)
  have HTO := Lib.hid (tolds_spec ⟨13, n, u, s, XA, xan, xac, XB, xbn, xbc⟩ vs _ (hI.pure hB.drew) hn)
  clear h hI hk hn hs hl hbd hB
  go_enter Tryz.func74, Tryz.ntmps74
  go_upto_region 1 with fail
  generalize (w.alloc (.cells #[.pointer (some ⟨M.β, 0, none⟩)] 122)).alloc (.cells #[.int .i64 (⟨13, n, u, s, XA, xan, xac, XB, xbn, xbc⟩ : Nv).k, .int .i64 (⟨13, n, u, s, XA, xan, xac, XB, xbn, xbc⟩ : Nv).n, .int .u64 ((⟨13, n, u, s, XA, xan, xac, XB, xbn, xbc⟩ : Nv).u : Int), .string ⟨(⟨13, n, u, s, XA, xan, xac, XB, xbn, xbc⟩ : Nv).s.toArray⟩, .slice (⟨13, n, u, s, XA, xan, xac, XB, xbn, xbc⟩ : Nv).A (⟨13, n, u, s, XA, xan, xac, XB, xbn, xbc⟩ : Nv).an (⟨13, n, u, s, XA, xan, xac, XB, xbn, xbc⟩ : Nv).ac, .slice (⟨13, n, u, s, XA, xan, xac, XB, xbn, xbc⟩ : Nv).B (⟨13, n, u, s, XA, xan, xac, XB, xbn, xbc⟩ : Nv).bn (⟨13, n, u, s, XA, xan, xac, XB, xbn, xbc⟩ : Nv).bc] 26) = w1 at HT0 HM0 HC0 HTO ⊢
  generalize newO o w.heap.size 0 = o1 at HT0 HM0 HC0
  generalize w.heap.size + 1 = bn at HC0 ⊢
  generalize w.heap.size = bx at HC0 ⊢
  obtain ⟨x0, x1, x2, x3, x4, x5, x6⟩ := HC0.out.cells
  go_wp2_with fail
  go_region_held3 (fun w' => w'.cell? ⟨bx, 0, none⟩ = some (.pointer (some ⟨M.β, 0, none⟩)) ∧ w'.cell? ⟨bn, 0, none⟩ = some (.int .i64 13) ∧ w'.cell? ⟨bn, 1, none⟩ = some (.int .i64 n) ∧ w'.cell? ⟨bn, 2, none⟩ = some (.int .u64 (u : Int)) ∧ w'.cell? ⟨bn, 3, none⟩ = some (.string ⟨s.toArray⟩) ∧ w'.cell? ⟨bn, 4, none⟩ = some (.slice XA xan xac) ∧ w'.cell? ⟨bn, 5, none⟩ = some (.slice XB xbn xbc)) (first | with_reducible exact ⟨x0, x1, x2, x3, x4, x5, x6⟩ | with_reducible exact ⟨kdrew x0, kdrew x1, kdrew x2, kdrew x3, kdrew x4, kdrew x5, kdrew x6⟩ | with_reducible exact ⟨y0, y1, y2, y3, y4, y5, y6⟩ | with_reducible exact ⟨z0, z1, z2, z3, z4, z5, z6⟩) (first
    | (go_at_call 114; (with_reducible refine HTO.out.mono ?_); rintro e wa ⟨A, c, rfl, hO, hb⟩; have hb' : Below w1.heap.size w1 wa := ((Below.refl w1.heap.size w1).drew).trans hb; have hca := HC0.out.to_ (To.fresh Bld hb' o1 0) bld_0; obtain ⟨y0, y1, y2, y3, y4, y5, y6⟩ := hca.cells; have HCA := Lib.hid hca; have HMA := Lib.hid (HM0.out.fresh hb' 0); have HTA := Lib.hid (HT0.out.trans (To.fresh Bld hb' o1 0)); have HIA := Lib.hid hO.is; have HOA := Lib.hid (show ∀ ad, A = some ad → ad.block < wa.heap.size ∧ newO o1 w1.heap.size 0 ad.block = 0 from fun ad e => ⟨(hO.addr ad e).2.2, newO_new (hO.addr ad e).2.1⟩); clear hO hb hb' hca)
    | (go_at_call 113; (with_reducible refine (ckeys_spec M fl b A xbn c (vs.map Nv.s) wa _ HMA.out HIA.out HOA.out HN.out HSS.out HBD.out HLL.out.1 HLL.out.2).mono ?_); rintro e wz ⟨rfl, oz, hMz, hTz⟩; obtain ⟨z0, z1, z2, z3, z4, z5, z6⟩ := (HCA.out.to_ hTz bld_0).cells; have HMZ := Lib.hid hMz; have HTZ := Lib.hid (HTA.out.trans hTz); clear hMz hTz))
  go_wp2_with fail
  go_end0
  exact ⟨rfl, oz, HMZ.out, HTZ.out⟩
end Go.Proofs.YtfoifdoaleaekaaGreat
