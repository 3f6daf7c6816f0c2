/-
  Package build: the inline values are pushed.
  Package build: an indirect number is written.
  Package fit: the widths, one after another, and the first at which a function says yes.
  Package fit: the first width at which a function says yes.
-/
import Derived.Test.YtfoifdoaleaekaaGreatQf13
import Derived.Deep.DeepCutAuto
import Derived.RangeFuncNested
import Derived.RangeFuncBound
import Derived.RangeFuncCalls
import Derived.RangeFuncLeaves
import Derived.Shelf.Abstract
import Derived.Shelf.RegionOpen
import Derived.OwnWalkIn
import Derived.TacticsInMore
import Derived.LoopNIn
import Derived.LoopIn
namespace Go.Proofs.YtfoifdoaleaekaaGreat
open Go.RowKit Go.Acc
set_option maxRecDepth 100000 in
set_option maxHeartbeats 1000000 in
theorem inline1_spec (M : Bp) (fl : Int) (b : Bd) (v : Bv) (bx bv : Nat) (w : World) (o : Nat → Nat) (h : BM M fl w o b) (hs : b.s.length < 65536)
    (hx : Blk w bx 122 #[.pointer (some ⟨M.β, 0, none⟩)]) (hv : Blk w bv 185 #[.int .i64 (v.t : Int), .int .i64 (v.w : Int), .int .u64 (v.n : Int)]) (ox : o bx = 0) (ov : o bv = 0) :
    Calls Tryz.prog 253 #[.pointer (some ⟨bx, 0, none⟩), .pointer (some ⟨bv, 0, none⟩)] w (BTo M fl (b.push v) w o) := by
  have H := Lib.hid h
  have HS := Lib.hid hs
  have x0 : w.cell? ⟨bx, 0, none⟩ = some (.pointer (some ⟨M.β, 0, none⟩)) := hx.cell 0
  have v0 : w.cell? ⟨bv, 0, none⟩ = some (.int .i64 (v.t : Int)) := hv.cell 0
  have v1 : w.cell? ⟨bv, 1, none⟩ = some (.int .i64 (v.w : Int)) := hv.cell 1
  have v2 : w.cell? ⟨bv, 2, none⟩ = some (.int .u64 (v.n : Int)) := hv.cell 2
  have HD := Lib.hid (h.pure (Below.refl _ _).drew)
  have n1 : ¬ Bld (o bx) := by rw [ox]; exact bld_0
  have n2 : ¬ Bld (o bv) := by rw [ov]; exact bld_0
  have HN1 := Lib.hid n1
  have HN2 := Lib.hid n2
  clear h hs hx hv n1 n2 ox ov
  go_enter Tryz.func253, Tryz.ntmps253
  go_region_held3 (fun w' => w'.cell? ⟨bx, 0, none⟩ = some (.pointer (some ⟨M.β, 0, none⟩)) ∧ w'.cell? ⟨bv, 0, none⟩ = some (.int .i64 (v.t : Int)) ∧ w'.cell? ⟨bv, 1, none⟩ = some (.int .i64 (v.w : Int)) ∧ w'.cell? ⟨bv, 2, none⟩ = some (.int .u64 (v.n : Int))) (first | with_reducible exact ⟨x0, v0, v1, v2⟩ | with_reducible exact ⟨kdrew x0, kdrew v0, kdrew v1, kdrew v2⟩ | with_reducible exact ⟨y1, y2, y3, y4⟩) (first | (go_at_call 173; (with_reducible refine (pushp_spec M fl b v _ o HD.out HS.out).mono ?_); rintro e W4 ⟨rfl, o4, hS4, hT4⟩; have y1 := hT4.cell (kdrew x0) HN1.out; have y2 := hT4.cell (kdrew v0) HN2.out; have y3 := hT4.cell (kdrew v1) HN2.out; have y4 := hT4.cell (kdrew v2) HN2.out; have HR := Lib.hid (And.intro hS4 hT4); clear hS4 hT4))
  go_end0
  exact ⟨rfl, o4, HR.out.1, HR.out.2.from_drew⟩
theorem below_two (w : World) (x y : Obj) : Below w.heap.size w ((w.alloc x).alloc y) := ((Below.refl _ _).alloc (Nat.le_refl _) _).alloc (by simp) _
set_option maxHeartbeats 1000000 in
theorem cinline_spec (M : Bp) (fl : Int) (b : Bd) (v : Bv) (w : World) (o : Nat → Nat) (h : BM M fl w o b) (hs : b.s.length < 65536) :
    Calls Tryz.prog 227 #[.pointer (some ⟨M.β, 0, none⟩), .agg #[.int .i64 (v.t : Int), .int .i64 (v.w : Int), .int .u64 (v.n : Int)]] w (BTo M fl (b.push v) w o) := by
  have HS := Lib.hid hs
  have hB := below_two w (.cells #[.pointer (some ⟨M.β, 0, none⟩)] 122) (.cells #[.int .i64 (v.t : Int), .int .i64 (v.w : Int), .int .u64 (v.n : Int)] 185)
  have HB := Lib.hid hB
  have HM := Lib.hid (h.fresh hB 0)
  have HK1 := Lib.hid ((Blk.new w 122 #[.pointer (some ⟨M.β, 0, none⟩)]).alloc (.cells #[.int .i64 (v.t : Int), .int .i64 (v.w : Int), .int .u64 (v.n : Int)] 185))
  have HK2 := Lib.hid (blk_new2 w (.cells #[.pointer (some ⟨M.β, 0, none⟩)] 122) 185 #[.int .i64 (v.t : Int), .int .i64 (v.w : Int), .int .u64 (v.n : Int)])
  clear h hs hB
  go_enter Tryz.func227, Tryz.ntmps227
  go_wp2_with fail
  go_at_call 163
  refine (unless_spec M fl 253 _ _ (newO o w.heap.size 0) b.vals _ HM.out.head Tryz.call253 ((inline1_spec M fl b v w.heap.size (w.heap.size + 1) _ (newO o w.heap.size 0) HM.out HS.out HK1.out HK2.out (newO_new (Nat.le_refl _)) (newO_new (Nat.le_succ _))).mono fun e w' h => ⟨h.1, h⟩)).mono ?_
  rintro e w' hR
  obtain rfl := hR.1
  have HR := Lib.hid (hR.from_fresh HB.out)
  clear hR
  go_wp2
  go_end0
  exact HR.out
set_option maxHeartbeats 400000 in
theorem cnull_spec (M : Bp) (fl : Int) (b : Bd) (w : World) (o : Nat → Nat) (h : BM M fl w o b) (hs : b.s.length < 65536) :
    Calls Tryz.prog 180 #[.pointer (some ⟨M.β, 0, none⟩)] w (BTo M fl (b.push ⟨0, 1, 0⟩) w o) := by
  have H := Lib.hid h
  have HS := Lib.hid hs
  clear h hs
  go_enter Tryz.func180, Tryz.ntmps180
  go_wp2_with fail
  go_at_call 227
  refine (cinline_spec M fl b ⟨0, 1, 0⟩ _ o H.out HS.out).mono ?_
  intro e w2 hR
  obtain rfl := hR.1
  have HR := Lib.hid hR
  clear hR
  go_wp2
  go_end0
  exact HR.out
set_option maxHeartbeats 400000 in
theorem cint_spec (M : Bp) (fl : Int) (b : Bd) (n : Int) (w : World) (o : Nat → Nat) (h : BM M fl w o b) (hs : b.s.length < 65536) (hn : -9223372036854775808 ≤ n ∧ n ≤ 9223372036854775807) :
    Calls Tryz.prog 182 #[.pointer (some ⟨M.β, 0, none⟩), .int .i64 n] w (BTo M fl (b.push (numV n)) w o) := by
  have H := Lib.hid h
  have HS := Lib.hid hs
  have HN := Lib.hid hn
  clear h hs hn
  go_enter Tryz.func182, Tryz.ntmps182
  go_wp2_with fail
  go_at_call 158
  refine (num_spec n _ HN.out).mono ?_
  rintro e w1 ⟨rfl, hB⟩
  have HB := Lib.hid hB
  clear hB
  go_wp2_with fail
  go_at_call 227
  refine (cinline_spec M fl b (numV n) _ o (H.out.pure HB.out) HS.out).mono ?_
  intro e w2 hR
  obtain rfl := hR.1
  have HR := Lib.hid (hR.from_pure HB.out)
  clear hR
  go_wp2
  go_end0
  exact HR.out
set_option maxHeartbeats 400000 in
theorem cuint_spec (M : Bp) (fl : Int) (b : Bd) (u : Nat) (w : World) (o : Nat → Nat) (h : BM M fl w o b) (hs : b.s.length < 65536) (hu : u < 18446744073709551616) :
    Calls Tryz.prog 183 #[.pointer (some ⟨M.β, 0, none⟩), .int .u64 (u : Int)] w (BTo M fl (b.push (unsV u)) w o) := by
  have H := Lib.hid h
  have HS := Lib.hid hs
  have HN := Lib.hid hu
  clear h hs hu
  go_enter Tryz.func183, Tryz.ntmps183
  go_wp2_with fail
  go_at_call 160
  refine (uns_spec u _ HN.out).mono ?_
  rintro e w1 ⟨rfl, hB⟩
  have HB := Lib.hid hB
  clear hB
  go_wp2_with fail
  go_at_call 227
  refine (cinline_spec M fl b (unsV u) _ o (H.out.pure HB.out) HS.out).mono ?_
  intro e w2 hR
  obtain rfl := hR.1
  have HR := Lib.hid (hR.from_pure HB.out)
  clear hR
  go_wp2
  go_end0
  exact HR.out
set_option maxHeartbeats 400000 in
theorem cbool_spec (M : Bp) (fl : Int) (b : Bd) (n : Int) (t : Bool) (w : World) (o : Nat → Nat) (h : BM M fl w o b) (hs : b.s.length < 65536) (ht : decide (n = 1) = t) :
    Calls Tryz.prog 181 #[.pointer (some ⟨M.β, 0, none⟩), .bool t] w (BTo M fl (b.push (truthV n)) w o) := by
  have H := Lib.hid h
  have HS := Lib.hid hs
  have HN := Lib.hid ht
  clear h hs ht
  go_enter Tryz.func181, Tryz.ntmps181
  go_wp2_with fail
  go_at_call 162
  refine (truth_spec n t _ HN.out).mono ?_
  rintro e w1 ⟨rfl, hB⟩
  have HB := Lib.hid hB
  clear hB
  go_wp2_with fail
  go_at_call 227
  refine (cinline_spec M fl b (truthV n) _ o (H.out.pure HB.out) HS.out).mono ?_
  intro e w2 hR
  obtain rfl := hR.1
  have HR := Lib.hid (hR.from_pure HB.out)
  clear hR
  go_wp2
  go_end0
  exact HR.out
end Go.Proofs.YtfoifdoaleaekaaGreat

namespace Go.Proofs.YtfoifdoaleaekaaGreat
open Go.RowKit Go.Acc
structure ApC (M : Bp) (v : Bv) (t bx bv bt : Nat) (w : World) (o : Nat → Nat) : Prop where
  x : Blk w bx 122 #[.pointer (some ⟨M.β, 0, none⟩)]
  v : Blk w bv 185 #[.int .i64 (v.t : Int), .int .i64 (v.w : Int), .int .u64 (v.n : Int)]
  t : Blk w bt 3 #[.int .i64 (t : Int)]
  ox : o bx = 0
  ov : o bv = 0
  ot : o bt = 0
theorem ApC.to_ {M : Bp} {v : Bv} {t bx bv bt : Nat} {w w' : World} {o o' : Nat → Nat} {I : Nat → Prop} (h : ApC M v t bx bv bt w o) (ht : To I w o w' o') (hI : ¬ I 0) : ApC M v t bx bv bt w' o' :=
  ⟨h.x.to_ ht (by rw [h.ox]; exact hI), h.v.to_ ht (by rw [h.ov]; exact hI), h.t.to_ ht (by rw [h.ot]; exact hI), by rw [ht.ow _ h.x.lt]; exact h.ox, by rw [ht.ow _ h.v.lt]; exact h.ov, by rw [ht.ow _ h.t.lt]; exact h.ot⟩
theorem ApC.cells {M : Bp} {v : Bv} {t bx bv bt : Nat} {w : World} {o : Nat → Nat} (h : ApC M v t bx bv bt w o) :
    w.cell? ⟨bx, 0, none⟩ = some (.pointer (some ⟨M.β, 0, none⟩)) ∧ w.cell? ⟨bv, 0, none⟩ = some (.int .i64 (v.t : Int)) ∧ w.cell? ⟨bv, 1, none⟩ = some (.int .i64 (v.w : Int)) ∧ w.cell? ⟨bv, 2, none⟩ = some (.int .u64 (v.n : Int)) ∧ w.cell? ⟨bt, 0, none⟩ = some (.int .i64 (t : Int)) :=
  ⟨h.x.cell 0, h.v.cell 0, h.v.cell 1, h.v.cell 2, h.t.cell 0⟩
theorem ApC.drew {M : Bp} {v : Bv} {t bx bv bt : Nat} {w : World} {o : Nat → Nat} (h : ApC M v t bx bv bt w o) : ApC M v t bx bv bt w.drew o := ⟨h.x, h.v, h.t, h.ox, h.ov, h.ot⟩
theorem ApC.drewN {M : Bp} {v : Bv} {t bx bv bt : Nat} {w : World} {o : Nat → Nat} (n : Nat) (h : ApC M v t bx bv bt w o) : ApC M v t bx bv bt (w.drewN n) o := ⟨h.x, h.v, h.t, h.ox, h.ov, h.ot⟩
theorem BM.drew {M : Bp} {fl : Int} {w : World} {o : Nat → Nat} {b : Bd} (h : BM M fl w o b) : BM M fl w.drew o b := h.pure (Below.refl _ _).drew
theorem fits_low (n y : Nat) : fitsU y (n % 2 ^ (8 * y)) = true := decide_eq_true (.inr (Nat.mod_lt _ (Nat.two_pow_pos _)))
theorem low_lt (n : Nat) {y : Nat} (hy : isW (y : Int) = true) : ((n % 2 ^ (8 * y) : Nat) : Int) < 18446744073709551616 := by
  have h := Nat.mod_lt n (Nat.two_pow_pos (8 * y))
  have h2 : 2 ^ (8 * y) ≤ 2 ^ 64 := Nat.pow_le_pow_right (by omega) (by have := w_cases hy; omega)
  have h3 : n % 2 ^ (8 * y) < 18446744073709551616 := Nat.lt_of_lt_of_le h h2
  omega
theorem apart_len (l : List UInt8) {y : Nat} (hy : isW (y : Int) = true) (hm : l.length + 15 ≤ 1048576) : (alignB y l).length + y ≤ 1048576 := by
  have h8 : y ≤ 8 := by
    have := w_cases hy
    omega
  have := alignB_len l h8
  omega
theorem pushp_is (M : Bp) (fl : Int) (b : Bd) (t y n : Nat) (w : World) (o : Nat → Nat) (h : BM M fl w o b) (hs : b.s.length < 65536) :
    Calls Tryz.prog 173 #[.pointer (some ⟨M.β, 0, none⟩), .agg #[.int .i64 (t : Int), .int .i64 (y : Int), .int .u64 (n : Int)]] w (BTo M fl (b.push ⟨t, y, n⟩) w o) := pushp_spec M fl b ⟨t, y, n⟩ w o h hs
theorem low_is (n y q : Nat) (w : World) (hy : isW (y : Int) = true) (hq : n % 2 ^ (8 * y) = q) : Calls Tryz.prog 131 #[.int .u64 (n : Int), .int .i64 (y : Int)] w fun e w' => e = .returned (.int .u64 (q : Int)) ∧ w = w' := by
  subst hq
  exact low_spec n y w hy
set_option maxRecDepth 100000 in
set_option maxHeartbeats 2000000 in
theorem apart1_spec (M : Bp) (fl : Int) (b : Bd) (v : Bv) (t bx bv bt : Nat) (w : World) (o : Nat → Nat) (h : BM M fl w o b) (hc : ApC M v t bx bv bt w o) (hs : b.s.length < 65536) (hy : isW (v.w : Int) = true) (hm : b.b.length + 15 ≤ 1048576) :
    Calls Tryz.prog 254 #[.pointer (some ⟨bx, 0, none⟩), .pointer (some ⟨bv, 0, none⟩), .pointer (some ⟨bt, 0, none⟩)] w (BTo M fl (b.apart t v.w v.n) w o) := by
  have HM := Lib.hid h
  have HC := Lib.hid hc
  have HS := Lib.hid hs
  have HY := Lib.hid hy
  have HL := Lib.hid (show b.b.length + 7 ≤ 1048576 by omega)
  have HL2 := Lib.hid (show (alignB v.w b.b).length + v.w ≤ 1048576 from (apart_len b.b hy hm))
  obtain ⟨x0, v0, v1, v2, t0⟩ := hc.cells
  have b0 := h.head.cells.1
  clear h hc hs hy hm
  go_enter Tryz.func254, Tryz.ntmps254
  go_wp2_with fail
  go_region_held3 (fun w' => w'.cell? ⟨bx, 0, none⟩ = some (.pointer (some ⟨M.β, 0, none⟩)) ∧ w'.cell? ⟨bv, 0, none⟩ = some (.int .i64 (v.t : Int)) ∧ w'.cell? ⟨bv, 1, none⟩ = some (.int .i64 (v.w : Int)) ∧ w'.cell? ⟨bv, 2, none⟩ = some (.int .u64 (v.n : Int)) ∧ w'.cell? ⟨bt, 0, none⟩ = some (.int .i64 (t : Int)) ∧ w'.cell? ⟨M.β, 0, none⟩ = some (.pointer (some ⟨M.bb, 0, none⟩))) (first | with_reducible exact ⟨x0, v0, v1, v2, t0, b0⟩ | with_reducible exact ⟨kdrew x0, kdrew v0, kdrew v1, kdrew v2, kdrew t0, kdrew b0⟩ | with_reducible exact ⟨y0, y1, y2, y3, y4, y5⟩) (first | (go_at_call 130; (with_reducible refine (balign_spec M.bb v.w b.b _ o HM.out.drew.buf HY.out HL.out).mono ?_); rintro e W1 ⟨rfl, o1, hB1, hT1⟩; have hM1 := HM.out.drew.buf_ hT1 hB1; have hC1 := HC.out.drew.to_ hT1 (by omega); obtain ⟨y0, y1, y2, y3, y4⟩ := hC1.cells; have y5 := hM1.head.cells.1; have HM1 := Lib.hid hM1; have HC1 := Lib.hid hC1; have HT1 := Lib.hid hT1.from_drew; clear hB1 hT1 hM1 hC1))
  clear x0 v0 v1 v2 t0 b0
  obtain ⟨m, hmm⟩ : ∃ x, (alignB v.w b.b).length = x := ⟨_, rfl⟩
  have HMM := Lib.hid hmm
  have HAP := Lib.hid (show b.apart t v.w v.n = ({ b with b := alignB v.w b.b ++ leBytes v.w (v.n % 2 ^ (8 * v.w)) } : Bd).push ⟨t, v.w, m⟩ by unfold Bd.apart Bd.push; rw [← hmm])
  obtain ⟨q, hq⟩ : ∃ q, v.n % 2 ^ (8 * v.w) = q := ⟨_, rfl⟩
  have HFL := Lib.hid (show fitsU v.w q = true by rw [← hq]; exact fits_low v.n v.w)
  have HLT := Lib.hid (show (q : Int) < 18446744073709551616 by rw [← hq]; exact low_lt v.n HY.out)
  have HQ := Lib.hid hq
  clear hmm hq
  go_wp2_with (go_at_call 129; refine (blen_is m HM1.out.buf HMM.out).mono ?_; rintro e w' ⟨rfl, rfl⟩)
  go_region_held3 (fun w' => w'.cell? ⟨bx, 0, none⟩ = some (.pointer (some ⟨M.β, 0, none⟩)) ∧ w'.cell? ⟨bv, 0, none⟩ = some (.int .i64 (v.t : Int)) ∧ w'.cell? ⟨bv, 1, none⟩ = some (.int .i64 (v.w : Int)) ∧ w'.cell? ⟨bv, 2, none⟩ = some (.int .u64 (v.n : Int)) ∧ w'.cell? ⟨bt, 0, none⟩ = some (.int .i64 (t : Int)) ∧ w'.cell? ⟨M.β, 0, none⟩ = some (.pointer (some ⟨M.bb, 0, none⟩))) (first | with_reducible exact ⟨y0, y1, y2, y3, y4, y5⟩ | with_reducible exact ⟨kdrew y0, kdrew y1, kdrew y2, kdrew y3, kdrew y4, kdrew y5⟩ | with_reducible exact ⟨z0, z1, z2, z3, z4, z5⟩) (first | (go_at_call 131; (with_reducible refine (low_is v.n v.w q _ HY.out HQ.out).mono ?_); rintro e w' ⟨rfl, rfl⟩) | (go_at_call 133; (with_reducible refine (bnum_spec M.bb v.w q (alignB v.w b.b) _ o1 HM1.out.drew.buf HY.out HFL.out HLT.out HL2.out).mono ?_); rintro e W2 ⟨rfl, o2, hB2, hT2⟩; have hM2 := HM1.out.drew.buf_ hT2 hB2; have hC2 := HC1.out.drew.to_ hT2 (by omega); obtain ⟨z0, z1, z2, z3, z4⟩ := hC2.cells; have z5 := hM2.head.cells.1; have HM2 := Lib.hid hM2; have HC2 := Lib.hid hC2; have HT2 := Lib.hid hT2.from_drew; clear hB2 hT2 hM2 hC2))
  clear y0 y1 y2 y3 y4 y5
  have hwm : IntKind.u64.wrap (m : Int) = (m : Int) := u64_in _ (by have := HL2.out; have := HMM.out; omega)
  go_wp2_with fail
  go_region_held3 (fun w' => w'.cell? ⟨bx, 0, none⟩ = some (.pointer (some ⟨M.β, 0, none⟩)) ∧ w'.cell? ⟨bv, 0, none⟩ = some (.int .i64 (v.t : Int)) ∧ w'.cell? ⟨bv, 1, none⟩ = some (.int .i64 (v.w : Int)) ∧ w'.cell? ⟨bv, 2, none⟩ = some (.int .u64 (v.n : Int)) ∧ w'.cell? ⟨bt, 0, none⟩ = some (.int .i64 (t : Int)) ∧ w'.cell? ⟨M.β, 0, none⟩ = some (.pointer (some ⟨M.bb, 0, none⟩))) (first | with_reducible exact ⟨z0, z1, z2, z3, z4, z5⟩ | with_reducible exact ⟨kdrew z0, kdrew z1, kdrew z2, kdrew z3, kdrew z4, kdrew z5⟩ | with_reducible exact ⟨x0, x1, x2, x3, x4, x5⟩) (first | (go_at_call 173; (with_reducible refine (pushp_is M fl { b with b := alignB v.w b.b ++ leBytes v.w q } t v.w m _ o2 HM2.out.drew HS.out).mono ?_); rintro e W3 ⟨rfl, o3, hM3, hT3⟩; have hC3 := HC2.out.drew.to_ hT3 bld_0; obtain ⟨x0, x1, x2, x3, x4⟩ := hC3.cells; have x5 := hM3.head.cells.1; have HM3 := Lib.hid hM3; have HT3 := Lib.hid hT3.from_drew; clear hT3 hM3 hC3))
  go_end0
  rw [HAP.out, HQ.out]
  exact ⟨rfl, o3, HM3.out, ((HT1.out.trans HT2.out).mono fun _ h => bld_1 h).trans HT3.out⟩
theorem below_three (w : World) (x y z : Obj) : Below w.heap.size w (((w.alloc x).alloc y).alloc z) := (below_two w x y).alloc (by simp; omega) _
set_option maxHeartbeats 1000000 in
theorem apart_spec (M : Bp) (fl : Int) (b : Bd) (v : Bv) (t : Nat) (w : World) (o : Nat → Nat) (h : BM M fl w o b) (hs : b.s.length < 65536) (hy : isW (v.w : Int) = true) (hm : b.b.length + 15 ≤ 1048576) :
    Calls Tryz.prog 228 #[.pointer (some ⟨M.β, 0, none⟩), .int .i64 (t : Int), .agg #[.int .i64 (v.t : Int), .int .i64 (v.w : Int), .int .u64 (v.n : Int)]] w (BTo M fl (b.apart t v.w v.n) w o) := by
  have HS := Lib.hid hs
  have HY := Lib.hid hy
  have HL := Lib.hid hm
  have hB := below_three w (.cells #[.pointer (some ⟨M.β, 0, none⟩)] 122) (.cells #[.int .i64 (t : Int)] 3) (.cells #[.int .i64 (v.t : Int), .int .i64 (v.w : Int), .int .u64 (v.n : Int)] 185)
  have HB := Lib.hid hB
  have HM := Lib.hid (h.fresh hB 0)
  have HC := Lib.hid (show ApC M v t w.heap.size (w.heap.size + 1 + 1) (w.heap.size + 1) (((w.alloc (.cells #[.pointer (some ⟨M.β, 0, none⟩)] 122)).alloc (.cells #[.int .i64 (t : Int)] 3)).alloc (.cells #[.int .i64 (v.t : Int), .int .i64 (v.w : Int), .int .u64 (v.n : Int)] 185)) (newO o w.heap.size 0) from
    ⟨((Blk.new w 122 #[.pointer (some ⟨M.β, 0, none⟩)]).alloc _).alloc _, blk_new3 w _ _ _ _, (blk_new2 w _ 3 #[.int .i64 (t : Int)]).alloc _, newO_new (by omega), newO_new (by omega), newO_new (by omega)⟩)
  clear h hs hB hy hm
  go_enter Tryz.func228, Tryz.ntmps228
  go_wp2_with fail
  go_at_call 163
  refine (unless_spec M fl 254 _ _ (newO o w.heap.size 0) b.vals _ HM.out.head Tryz.call254 ((apart1_spec M fl b v t w.heap.size (w.heap.size + 1 + 1) (w.heap.size + 1) _ (newO o w.heap.size 0) HM.out HC.out HS.out HY.out HL.out).mono fun e w' h => ⟨h.1, h⟩)).mono ?_
  rintro e w' hR
  obtain rfl := hR.1
  have HR := Lib.hid (hR.from_fresh HB.out)
  clear hR
  go_wp2
  go_end0
  exact HR.out
set_option maxHeartbeats 400000 in
theorem ciint_spec (M : Bp) (fl : Int) (b : Bd) (n : Int) (w : World) (o : Nat → Nat) (h : BM M fl w o b) (hs : b.s.length < 65536) (hm : b.b.length + 15 ≤ 1048576) (hn : -9223372036854775808 ≤ n ∧ n ≤ 9223372036854775807) :
    Calls Tryz.prog 184 #[.pointer (some ⟨M.β, 0, none⟩), .int .i64 n] w (BTo M fl (b.apart 6 (bWidthI n) (bits n)) w o) := by
  have H := Lib.hid h
  have HS := Lib.hid hs
  have HL := Lib.hid hm
  have HY := Lib.hid (bWidthI_is n)
  have HN := Lib.hid hn
  clear h hs hm hn
  go_enter Tryz.func184, Tryz.ntmps184
  go_wp2_with fail
  go_at_call 158
  refine (num_spec n _ HN.out).mono ?_
  rintro e w1 ⟨rfl, hB⟩
  have HB := Lib.hid hB
  clear hB
  go_wp2_with fail
  go_at_call 228
  refine (apart_spec M fl b (numV n) 6 _ o (H.out.pure HB.out) HS.out HY.out HL.out).mono ?_
  intro e w2 hR
  obtain rfl := hR.1
  have HR := Lib.hid (hR.from_pure HB.out)
  clear hR
  go_wp2
  go_end0
  exact HR.out
set_option maxHeartbeats 400000 in
theorem ciuint_spec (M : Bp) (fl : Int) (b : Bd) (u : Nat) (w : World) (o : Nat → Nat) (h : BM M fl w o b) (hs : b.s.length < 65536) (hm : b.b.length + 15 ≤ 1048576) (hu : u < 18446744073709551616) :
    Calls Tryz.prog 185 #[.pointer (some ⟨M.β, 0, none⟩), .int .u64 (u : Int)] w (BTo M fl (b.apart 7 (bWidth u) u) w o) := by
  have H := Lib.hid h
  have HS := Lib.hid hs
  have HL := Lib.hid hm
  have HY := Lib.hid (bWidth_is u)
  have HN := Lib.hid hu
  clear h hs hm hu
  go_enter Tryz.func185, Tryz.ntmps185
  go_wp2_with fail
  go_at_call 160
  refine (uns_spec u _ HN.out).mono ?_
  rintro e w1 ⟨rfl, hB⟩
  have HB := Lib.hid hB
  clear hB
  go_wp2_with fail
  go_at_call 228
  refine (apart_spec M fl b (unsV u) 7 _ o (H.out.pure HB.out) HS.out HY.out HL.out).mono ?_
  intro e w2 hR
  obtain rfl := hR.1
  have HR := Lib.hid (hR.from_pure HB.out)
  clear hR
  go_wp2
  go_end0
  exact HR.out
end Go.Proofs.YtfoifdoaleaekaaGreat

namespace Go.Proofs.YtfoifdoaleaekaaGreat
open Go.RowKit Go.Acc
attribute [local go_sem] Oper.semAt_some
theorem fwithin_spec (n : Nat) (w : World) (hn : n ≤ 1073741824) : Calls Tryz.prog 190 #[.int .i64 (n : Int)] w fun e w' => e = .returned (.bool true) ∧ w = w' := by
  have h0 : (0 : Int) ≤ (n : Int) := by omega
  have h1 : (n : Int) ≤ 1073741824 := by omega
  go_enter Tryz.func190, Tryz.ntmps190
  go_wp2
  go_ret
  exact ⟨rfl, rfl⟩
theorem bkept {W W' : World} {row : Option Nat} (hg : W.grownBy W' row) (hr : ∀ r, row = some r → ∃ o : Obj, W.heap[r]? = some o ∧ o.isCells = false) {g : Nat} {t : TypeId} {cs : Array Value} (h : Blk W g t cs) : Blk W' g t cs := (grownBy_keeps_cells hg hr h rfl).trans h
theorem keepsFrom_p {B : Nat} {W W' : World} (hb : Below W.heap.size W W') : KeepsFrom B W W' := ⟨hb.size, fun k _ _ hk _ => (hb.block k (Array.getElem?_eq_some_iff.1 hk).1).trans hk⟩
theorem wpin_a {F : Fence} {n : Nat} {P : Program} {c : Code} {Q : Exit → Act → World → Prop} {a : Act} {w : World} (h : ∀ a0, a0 = a → c.wpIn F n P Q a0 w) : c.wpIn F n P Q a w := h a rfl
def ws4 : List (Fin 4) := [0, 1, 2, 3]
def encW (i : Fin 4) : Array Value := #[.int .i64 ((2 ^ i.val : Nat) : Int)]
set_option maxRecDepth 100000 in
set_option maxHeartbeats 2000000 in
theorem widths1_stops (w : World) (n : Nat) (hn : 1 ≤ n) :
    SeqStopsK Fence.wide n Tryz.prog 255 #[] encW (fun _ _ => True) (fun xs => xs = ws4) (fun pre => pre <+: ws4) 4 w := by
  intro l J Jx W hW hJ hJx hY h0
  have HJ := Lib.hid h0
  have HY := Lib.hid hY
  clear hW h0 hJ hY hJx
  refine callsIn_wide.2 ?_
  go_enter Tryz.func255, Tryz.ntmps255
  go_wp2_with fail
  go_loopw [2] (fun u wr => ∃ k : Nat, k ≤ 4 ∧ u = .int .i64 ((2 ^ k : Nat) : Int) ∧ J (ws4.take k) wr) (fun u _ => 16 - (intOf u).toNat)
  case atStart => exact ⟨0, by omega, rfl, HJ.out⟩
  case round =>
    clear HJ
    obtain ⟨k, hk, rfl, hJ1⟩ := hrel
    have HJ := Lib.hid hJ1
    clear hJ1
    obtain rfl | rfl | rfl | rfl | rfl : k = 0 ∨ k = 1 ∨ k = 2 ∨ k = 3 ∨ k = 4 := by omega
    · have HJK := Lib.hid (show J (ws4.take 0) wr from HJ.out)
      simp only [Nat.reducePow, Int.cast_ofNat_Int]
      clear HJ
      go_upto_region 3 with fail
      obtain ⟨fn, tmps, assign, body, hy, hR⟩ := HY.out (ws4.take 0) 0 _ HJK.out (by decide)
      rw [show encW 0 = #[.int .i64 1] from rfl] at hy
      refine (wpIn_wide (n := n)).1 ?_
      gi_wp2
      refine hR.mono ?_
      rintro e W9 (⟨rfl, hJ9, -⟩ | ⟨rfl, hJ9⟩)
      · have HJ9 := Lib.hid hJ9
        clear hJ9 hR hy HJK
        gi_wp2
        go_wp2_with fail
        go_roundw
        case rel => exact ⟨0 + 1, by omega, rfl, HJ9.out⟩
        case measure => simp [intOf]
      · have HJ9 := Lib.hid hJ9
        clear hJ9 hR hy HJK
        gi_wp2
        go_wp2_with fail
        refine bodyPost_ret (results_none rfl _ _ _) rfl ?_
        exact ⟨⟨_, rfl⟩, .inr ⟨[0], by decide, HJ9.out⟩⟩
    · have HJK := Lib.hid (show J (ws4.take 1) wr from HJ.out)
      simp only [Nat.reducePow, Int.cast_ofNat_Int]
      clear HJ
      go_upto_region 3 with fail
      obtain ⟨fn, tmps, assign, body, hy, hR⟩ := HY.out (ws4.take 1) 1 _ HJK.out (by decide)
      rw [show encW 1 = #[.int .i64 2] from rfl] at hy
      refine (wpIn_wide (n := n)).1 ?_
      gi_wp2
      refine hR.mono ?_
      rintro e W9 (⟨rfl, hJ9, -⟩ | ⟨rfl, hJ9⟩)
      · have HJ9 := Lib.hid hJ9
        clear hJ9 hR hy HJK
        gi_wp2
        go_wp2_with fail
        go_roundw
        case rel => exact ⟨1 + 1, by omega, rfl, HJ9.out⟩
        case measure => simp [intOf]
      · have HJ9 := Lib.hid hJ9
        clear hJ9 hR hy HJK
        gi_wp2
        go_wp2_with fail
        refine bodyPost_ret (results_none rfl _ _ _) rfl ?_
        exact ⟨⟨_, rfl⟩, .inr ⟨[0, 1], by decide, HJ9.out⟩⟩
    · have HJK := Lib.hid (show J (ws4.take 2) wr from HJ.out)
      simp only [Nat.reducePow, Int.cast_ofNat_Int]
      clear HJ
      go_upto_region 3 with fail
      obtain ⟨fn, tmps, assign, body, hy, hR⟩ := HY.out (ws4.take 2) 2 _ HJK.out (by decide)
      rw [show encW 2 = #[.int .i64 4] from rfl] at hy
      refine (wpIn_wide (n := n)).1 ?_
      gi_wp2
      refine hR.mono ?_
      rintro e W9 (⟨rfl, hJ9, -⟩ | ⟨rfl, hJ9⟩)
      · have HJ9 := Lib.hid hJ9
        clear hJ9 hR hy HJK
        gi_wp2
        go_wp2_with fail
        go_roundw
        case rel => exact ⟨2 + 1, by omega, rfl, HJ9.out⟩
        case measure => simp [intOf]
      · have HJ9 := Lib.hid hJ9
        clear hJ9 hR hy HJK
        gi_wp2
        go_wp2_with fail
        refine bodyPost_ret (results_none rfl _ _ _) rfl ?_
        exact ⟨⟨_, rfl⟩, .inr ⟨[0, 1, 2], by decide, HJ9.out⟩⟩
    · have HJK := Lib.hid (show J (ws4.take 3) wr from HJ.out)
      simp only [Nat.reducePow, Int.cast_ofNat_Int]
      clear HJ
      go_upto_region 3 with fail
      obtain ⟨fn, tmps, assign, body, hy, hR⟩ := HY.out (ws4.take 3) 3 _ HJK.out (by decide)
      rw [show encW 3 = #[.int .i64 8] from rfl] at hy
      refine (wpIn_wide (n := n)).1 ?_
      gi_wp2
      refine hR.mono ?_
      rintro e W9 (⟨rfl, hJ9, -⟩ | ⟨rfl, hJ9⟩)
      · have HJ9 := Lib.hid hJ9
        clear hJ9 hR hy HJK
        gi_wp2
        go_wp2_with fail
        go_roundw
        case rel => exact ⟨3 + 1, by omega, rfl, HJ9.out⟩
        case measure => simp [intOf]
      · have HJ9 := Lib.hid hJ9
        clear hJ9 hR hy HJK
        gi_wp2
        go_wp2_with fail
        refine bodyPost_ret (results_none rfl _ _ _) rfl ?_
        exact ⟨⟨_, rfl⟩, .inr ⟨[0, 1, 2, 3], by decide, HJ9.out⟩⟩
    · simp only [Nat.reducePow, Int.cast_ofNat_Int]
      go_wp2_with fail
      go_end0
      exact ⟨⟨_, rfl⟩, .inl ⟨_, rfl, HJ.out⟩⟩
end Go.Proofs.YtfoifdoaleaekaaGreat

namespace Go.Proofs.YtfoifdoaleaekaaGreat
open Go.RowKit Go.Acc
attribute [local go_sem] Oper.semAt_some
theorem widths_spec (w : World) : Calls Tryz.prog 233 #[] w fun e w' => e = .returned (.func (.func 255) #[] #[]) ∧ w = w' := by
  go_enter Tryz.func233, Tryz.ntmps233
  go_wp2
  go_ret
  exact ⟨rfl, rfl⟩
theorem leastW_first {f : Nat → Bool} {y : Fin 4} {pre : List (Fin 4)} (hp : pre ++ [y] <+: ws4) (h : ∀ z ∈ pre, f (2 ^ z.val) = false) (hy : f (2 ^ y.val) = true) : leastW f = 2 ^ y.val := by
  unfold leastW
  obtain ⟨r, hr⟩ := hp
  rcases pre with _ | ⟨a, _ | ⟨b, _ | ⟨c, _ | ⟨d, pre⟩⟩⟩⟩
  · simp [ws4] at hr
    obtain ⟨rfl, _⟩ := hr
    rw [if_pos (show f 1 = true from hy)]
    rfl
  · simp [ws4] at hr
    obtain ⟨rfl, rfl, _⟩ := hr
    have h0 : f 1 = false := h 0 (by simp)
    rw [if_neg (by rw [h0]; decide), if_pos (show f 2 = true from hy)]
    rfl
  · simp [ws4] at hr
    obtain ⟨rfl, rfl, rfl, _⟩ := hr
    have h0 : f 1 = false := h 0 (by simp)
    have h1 : f 2 = false := h 1 (by simp)
    rw [if_neg (by rw [h0]; decide), if_neg (by rw [h1]; decide), if_pos (show f 4 = true from hy)]
    rfl
  · simp [ws4] at hr
    obtain ⟨rfl, rfl, rfl, rfl, _⟩ := hr
    have h0 : f 1 = false := h 0 (by simp)
    have h1 : f 2 = false := h 1 (by simp)
    have h2 : f 4 = false := h 2 (by simp)
    rw [if_neg (by rw [h0]; decide), if_neg (by rw [h1]; decide), if_neg (by rw [h2]; decide), if_pos (show f 8 = true from hy)]
    rfl
  · exfalso
    have := congrArg List.length hr
    simp [ws4] at this
theorem leastW_no {f : Nat → Bool} (h : ∀ z ∈ ws4, f (2 ^ z.val) = false) : leastW f = 0 := by
  unfold leastW
  have h0 : f 1 = false := h 0 (by decide)
  have h1 : f 2 = false := h 1 (by decide)
  have h2 : f 4 = false := h 2 (by decide)
  have h3 : f 8 = false := h 3 (by decide)
  rw [h0, h1, h2, h3]
  rfl
set_option maxRecDepth 100000 in
set_option maxHeartbeats 2000000 in
theorem least_spec (F : Nat) (caps : Array Value) (f : Nat → Bool) (w : World)
    (hF : ∀ (args : Array Value) (w : World), (callFunc F args).run Tryz.prog w = .ok (.enter F args) w)
    (hf : ∀ y : Fin 4, ∀ W, Below w.heap.size w W → Calls Tryz.prog F (#[.int .i64 ((2 ^ y.val : Nat) : Int)] ++ caps) W fun e W' => e = .returned (.bool (f (2 ^ y.val))) ∧ Below W.heap.size W W') :
    Calls Tryz.prog 191 #[.func (.func F) #[] caps] w fun e w' => e = .returned (.int .i64 (leastW f : Nat)) ∧ Below w.heap.size w w' := by
  have HF := Lib.hid hf
  clear hf
  refine callsIn_wide.1 (callsIn_of_wp_marks (n := 6) Tryz.func191 rfl trivial (wpIn_wide.2 ?_))
  simp only [Tryz.ntmps191, List.size_toArray, List.length_cons, List.length_nil, Nat.reduceAdd, Nat.reduceSub, Array.replicate_succ, Array.replicate_zero, List.push_toArray, List.append_toArray, List.nil_append, List.cons_append]
  have HB := Lib.hid (show Below w.heap.size w ((w.alloc (.cells #[.func (.func F) #[] caps] 43)).alloc (.cells #[.int .i64 0] 3)) from ((Below.refl _ _).alloc (Nat.le_refl _) _).alloc (by simp) _)
  have HX := Lib.hid ((Blk.new w 43 #[.func (.func F) #[] caps]).alloc (.cells #[.int .i64 0] 3))
  have HY := Lib.hid (blk_new2 w (.cells #[.func (.func F) #[] caps] 43) 3 #[.int .i64 0])
  go_wp2_with (go_at_call 233; refine (widths_spec _).mono ?_; rintro e w' ⟨rfl, rfl⟩)
  have HN0 := Lib.hid (show w.heap.size ≤ w.heap.size from Nat.le_refl _)
  generalize (w.alloc (.cells #[.func (.func F) #[] caps] 43)).alloc (.cells #[.int .i64 0] 3) = w1 at HB HX HY ⊢
  obtain ⟨n0, hn0⟩ : ∃ n0, w.heap.size = n0 := ⟨_, rfl⟩
  have HSL := Lib.hid (show n0 ≤ n0 + 1 by omega)
  rw [hn0] at HB HX HY HF ⊢
  have HNN := Lib.hid hn0
  have HN1 := Lib.hid (show n0 ≤ w1.heap.size from by rw [← hn0]; have := HB.out.size; omega)
  generalize n0 + 1 = bY at HSL HY ⊢
  clear HN0 hn0
  refine (wpIn_wide (n := 6)).1 ?_
  refine wpin_a fun a0 ha0 => ?_
  refine wpIn_rangeFunc_ownH rfl (by omega) (gf := 255) (lb := #[]) (by rw [ha0]; rfl) trivial (enters_of Tryz.func255 (by kernel_rfl) rfl)
    (widths1_stops w1 (6 - 1) (by omega)) (fun _ _ => trivial) (fun _ _ _ _ _ _ _ _ => trivial) (Below.refl _ _) (fun _ => rfl)
    (fun pre W => (Blk W n0 43 #[.func (.func F) #[] caps] ∧ Blk W bY 3 #[.int .i64 0] ∧ ∀ z ∈ pre, f (2 ^ z.val) = false) ∧ Below n0 w W)
    (fun c pre W => (c = .ret ∧ ∃ p y, pre = p ++ [y] ∧ (∀ z ∈ p, f (2 ^ z.val) = false) ∧ f (2 ^ y.val) = true ∧ Blk W bY 3 #[.int .i64 ((2 ^ y.val : Nat) : Int)]) ∧ Below n0 w W)
    (OwnFrom.and (fun s A B row hs hg hr => ⟨bkept hg (fun r e => (hr r e).2) hs.1, bkept hg (fun r e => (hr r e).2) hs.2.1, hs.2.2⟩) (ownFrom_below (Nat.le_of_eq HNN.out.symm) HN1.out))
    (fun c => OwnFrom.and (fun s A B row hs hg hr => by obtain ⟨h1, p, y, h2, h3, h4, h5⟩ := hs; exact ⟨h1, p, y, h2, h3, h4, bkept hg (fun r e => (hr r e).2) h5⟩) (ownFrom_below (Nat.le_of_eq HNN.out.symm) HN1.out))
    ⟨⟨HX.out, HY.out, fun i h => by cases h⟩, HB.out⟩
    (fun x a' W => a' = { tmps := (a0.tmps.setIfInBounds 5 (.int .i64 ((2 ^ x.val : Nat) : Int))).setIfInBounds 3 (.int .i64 ((2 ^ x.val : Nat) : Int)), defers := [] })
    (fun x a' _ A B row hs hg hr => hs)
    ?assign ?body ?done ?stop
  case assign =>
    rintro l pre x W K ⟨⟨hX, hY, hall⟩, hB⟩ hK
    have HQ := Lib.hid hK
    have HALL := Lib.hid hall
    clear hK hall HX HY HB
    subst ha0
    unfold encW
    generalize ((2 ^ x.val : Nat) : Int) = z at HQ ⊢
    gi_wp2
    exact HQ.out _ _ (keepsFrom_p (Below.refl _ _)) trivial ⟨⟨hX, hY, HALL.out⟩, hB⟩ rfl
  case body =>
    rintro l pre x a' W hl ⟨rr, hrr⟩ ⟨⟨hX, hY, hall⟩, hB⟩ rfl hlt
    have HXX := Lib.hid hX
    have HYY := Lib.hid hY
    have HALL := Lib.hid hall
    have HBB := Lib.hid hB
    have x0 : W.cell? ⟨n0, 0, none⟩ = some (.func (.func F) #[] caps) := hX.cell 0
    have HC := Lib.hid (HF.out x W hB)
    clear hX hY hall hB HX HY HB hlt
    subst ha0
    obtain ⟨z, hz⟩ : ∃ z : Nat, 2 ^ x.val = z := ⟨_, rfl⟩
    have HZ := Lib.hid hz
    rw [hz] at HC ⊢
    obtain ⟨t, ht⟩ : ∃ t, f z = t := ⟨_, rfl⟩
    rw [ht] at HC
    have HT := Lib.hid ht
    clear hz ht
    gi_wp2
    refine ⟨trivial, (CallsIn.inRound l (callsIn_wide.2 HC.out)).mono ?_⟩
    rintro e W3 ⟨rfl, hb⟩
    have HB3 := Lib.hid hb
    have s0 : W3.cell? ⟨bY, 0, none⟩ = some (.int .i64 0) := (HYY.out.pure HB3.out).cell 0
    have s1 := (HYY.out.pure HB3.out).frozen 0
    have HB4 := Lib.hid (pure_below HBB.out HB3.out (Nat.le_of_eq HNN.out.symm))
    clear hb x0
    cases t with
    | false =>
      gi_wp2
      refine ⟨keepsFrom_p HB3.out, trivial, ⟨HXX.out.pure HB3.out, HYY.out.pure HB3.out, ?_⟩, HB4.out⟩
      intro j hj
      rcases List.mem_append.1 hj with hj | hj
      · exact HALL.out j hj
      · rw [List.mem_singleton.1 hj, HZ.out]
        exact HT.out
    | true =>
      gi_wp2
      exact ⟨(keepsFrom_p HB3.out).trans ((KeepsOthers.setCell _ _ _).from _), ⟨rfl, pre, x, rfl, HALL.out, by rw [HZ.out]; exact HT.out, by rw [HZ.out]; exact (HYY.out.pure HB3.out).set_ 0 _⟩, HB4.out.setCell (p := ⟨bY, 0, none⟩) HSL.out _⟩
  case done =>
    rintro D ys W hD rfl ⟨⟨hX, hY, hall⟩, hB⟩ hK
    subst ha0
    have hz := leastW_no hall
    have HZ := Lib.hid hz
    have s0 : W.cell? ⟨bY, 0, none⟩ = some (.int .i64 0) := hY.cell 0
    have s1 := hY.frozen 0
    have s2 := hY.set_ 0 (.int .i64 0)
    have hK' := (KeepsOthers.setCell W ⟨bY, 0, none⟩ (.int .i64 0)).same D _ hK rfl
    clear hz hall hX hY HX HY HB
    go_wp2_with fail
    refine ⟨by simp, .inl ⟨_, _, rfl, run_takeDeferred hK', ?_⟩⟩
    have hc5 := bkept (grownBy_putObj' _ D (.deferred none)) (fun r e => by cases e; exact ⟨_, hK', rfl⟩) s2
    have hc6 : _ = some (Value.int .i64 0) := hc5.cell 0
    refine ⟨.int .i64 0, ?_, by rw [HZ.out]; rfl, ?_⟩
    · simp [results, Tryz.f191, go_sem, hc6]
    · rw [HNN.out]
      exact (hB.setCell (p := ⟨bY, 0, none⟩) HSL.out _).trans (belowK_b (w := w) (Nat.le_of_eq HNN.out.symm) _ D _ _ (by have := HN1.out; have := HNN.out; omega) hK' rfl rfl)
  case stop =>
    rintro D c pre W hD hpre ⟨⟨rfl, p, y, rfl, hall, hy, hY⟩, hB⟩ hK
    have HZ := Lib.hid (leastW_first hpre hall hy)
    subst ha0
    clear hall hy HX HY HB hpre
    gi_wp2
    refine ⟨by simp, .inl ⟨_, _, rfl, run_takeDeferred hK, ?_⟩⟩
    have hc5 := bkept (grownBy_putObj' W D (.deferred none)) (fun r e => by cases e; exact ⟨_, hK, rfl⟩) hY
    have hc6 : _ = some (Value.int .i64 ((2 ^ y.val : Nat) : Int)) := hc5.cell 0
    refine ⟨.int .i64 ((2 ^ y.val : Nat) : Int), ?_, by rw [HZ.out], ?_⟩
    · simp [results, Tryz.f191, go_sem, hc6]
    · rw [HNN.out]
      exact hB.trans (belowK_b (w := w) (Nat.le_of_eq HNN.out.symm) _ D _ _ (by have := HN1.out; have := HNN.out; omega) hK rfl rfl)
end Go.Proofs.YtfoifdoaleaekaaGreat
