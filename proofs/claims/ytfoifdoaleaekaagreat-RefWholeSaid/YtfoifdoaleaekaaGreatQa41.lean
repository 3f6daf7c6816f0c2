/-
  Package build: Key.
  Package encode: Build of a node without children.
  Package encode: the calls for a key, a string, a blob; Build where Check finds an error.
-/
import Derived.Test.YtfoifdoaleaekaaGreatQa21
import Derived.Test.YtfoifdoaleaekaaGreatQa29
namespace Go.Proofs.YtfoifdoaleaekaaGreat
open Go.RowKit Go.Acc
set_option maxRecDepth 100000 in
set_option maxHeartbeats 2000000 in
theorem ckey1_spec (M : Bp) (fl : Int) (b : Bd) (s : List UInt8) (bx bs : Nat) (w : World) (o : Nat → Nat) (h : BM M fl w o b) (hc : TxC M s bx bs w o) (hr : RoomK b s) (hz : hasZero s = false) :
    Calls Tryz.prog 172 #[.pointer (some ⟨bx, 0, none⟩), .pointer (some ⟨bs, 0, none⟩)] w (BTo M fl (b.key (Go.Proofs.YtfoifdoaleaekaaGreat.bits fl) s) w o) := by
  have HM := Lib.hid h
  have HR := Lib.hid hr
  have HC := Lib.hid hc
  have HZ := Lib.hid hz
  have HPU := Lib.hid (fun (a : Nat) (x : Bd) (W : World) (O : Nat → Nat) (hM : BM M fl W O x) (hs : x.s.length < 65536) => (show Calls Tryz.prog 173 #[.pointer (some ⟨M.β, 0, none⟩), .agg #[.int .i64 4, .int .i64 1, .int .u64 (a : Int)]] W (BTo M fl (x.push ⟨4, 1, a⟩) W O) from pushp_is M fl x 4 1 a W O hM hs))
  have HST := Lib.hid (show (b.put (Go.Proofs.YtfoifdoaleaekaaGreat.bits fl) s).1.s.length < 65536 by
    have := hr.st
    unfold Bd.put
    split <;> exact this)
  obtain ⟨x0, x1⟩ := hc.cells
  clear h hr hc hz
  go_enter Tryz.func172, Tryz.ntmps172
  go_wp2_with fail
  go_region_held3 (fun w' => w'.cell? ⟨bx, 0, none⟩ = some (.pointer (some ⟨M.β, 0, none⟩)) ∧ w'.cell? ⟨bs, 0, none⟩ = some (.string ⟨s.toArray⟩)) (first | with_reducible exact ⟨x0, x1⟩ | with_reducible exact ⟨kdrew x0, kdrew x1⟩ | with_reducible exact ⟨y0, y1⟩ | with_reducible exact ⟨z0, z1⟩) (first | (go_at_call 166; (with_reducible refine (cput_spec M fl b s _ o HM.out.drew HR.out HZ.out).mono ?_); rintro e w2 ⟨a, ha, rfl, o2, hM2, hT2⟩; have hx2 := HC.out.x.to_ hT2.from_drew (by rw [HC.out.ox]; exact bld_0); have hs2 := HC.out.s.to_ hT2.from_drew (by rw [HC.out.os]; exact bld_0); have y0 : w2.cell? ⟨bx, 0, none⟩ = some (.pointer (some ⟨M.β, 0, none⟩)) := hx2.cell 0; have y1 : w2.cell? ⟨bs, 0, none⟩ = some (.string ⟨s.toArray⟩) := hs2.cell 0; have ox2 : o2 bx = 0 := (hT2.from_drew.ow _ HC.out.x.lt).trans HC.out.ox; have os2 : o2 bs = 0 := (hT2.from_drew.ow _ HC.out.s.lt).trans HC.out.os; have HX2 := Lib.hid hx2; have HS2 := Lib.hid hs2; have HM2 := Lib.hid hM2; have HT2 := Lib.hid hT2.from_drew; have HA := Lib.hid ha; clear hM2 hT2 hx2 hs2 ha) | (go_at_call 173; (with_reducible refine (HPU.out a _ _ o2 HM2.out HST.out).mono ?_); rintro e w3 ⟨rfl, o3, hM3, hT3⟩; have hx3 := HX2.out.to_ hT3 (by rw [ox2]; exact bld_0); have hs3 := HS2.out.to_ hT3 (by rw [os2]; exact bld_0); have z0 : w3.cell? ⟨bx, 0, none⟩ = some (.pointer (some ⟨M.β, 0, none⟩)) := hx3.cell 0; have z1 : w3.cell? ⟨bs, 0, none⟩ = some (.string ⟨s.toArray⟩) := hs3.cell 0; have HM3 := Lib.hid hM3; have HT3 := Lib.hid (HT2.out.trans hT3); clear hM3 hT3 hx3 hs3))
  go_wp2
  go_end0
  refine ⟨rfl, o3, ?_, HT3.out⟩
  show BM M fl w3 o3 ((b.put (Go.Proofs.YtfoifdoaleaekaaGreat.bits fl) s).1.push (b.put (Go.Proofs.YtfoifdoaleaekaaGreat.bits fl) s).2)
  rw [HA.out]
  exact HM3.out
set_option maxHeartbeats 400000 in
theorem ckey_spec (M : Bp) (fl : Int) (b : Bd) (s : List UInt8) (w : World) (o : Nat → Nat) (h : BM M fl w o b) (hr : RoomK b s) (hz : hasZero s = false) :
    Calls Tryz.prog 122 #[.pointer (some ⟨M.β, 0, none⟩), .string ⟨s.toArray⟩] w (BTo M fl (b.key (Go.Proofs.YtfoifdoaleaekaaGreat.bits fl) s) w o) := by
  have HR := Lib.hid hr
  have HZ := Lib.hid hz
  have hB := below_two w (.cells #[.pointer (some ⟨M.β, 0, none⟩)] 122) (.cells #[.string ⟨s.toArray⟩] 9)
  have HB := Lib.hid hB
  have HM := Lib.hid (h.fresh hB 0)
  have HC := Lib.hid (txc_new M s w o)
  clear h hr hB hz
  go_enter Tryz.func122, Tryz.ntmps122
  go_wp2_with fail
  go_at_call 163
  refine (unless_spec M fl 172 _ _ (newO o w.heap.size 0) b.vals _ HM.out.head Tryz.call172 ((ckey1_spec M fl b s w.heap.size (w.heap.size + 1) _ (newO o w.heap.size 0) HM.out HC.out HR.out HZ.out).mono fun e w' h => ⟨h.1, h⟩)).mono ?_
  rintro e w' hR
  obtain rfl := hR.1
  have HR := Lib.hid (hR.from_fresh HB.out)
  clear hR
  go_wp2
  go_end0
  exact HR.out
end Go.Proofs.YtfoifdoaleaekaaGreat

namespace Go.Proofs.YtfoifdoaleaekaaGreat
open Go.RowKit Go.Acc
/-- A document is made. -/
def DocW (w : World) (m : List UInt8) (e : Ending) (w' : World) : Prop := ∃ A n c, e = .returned (.tuple #[.slice A n c, .int .i64 0]) ∧ OwnB w' w.heap.size A n c m ∧ Below w.heap.size w w'
theorem docw_lift {w W : World} {m : List UInt8} {e : Ending} {w' : World} (hB : Below w.heap.size w W) (h : DocW W m e w') : DocW w m e w' := by
  obtain ⟨A, n, c, he, hO, hB'⟩ := h
  exact ⟨A, n, c, he, hO.rebase hB.size, pure_trans hB hB'⟩
end Go.Proofs.YtfoifdoaleaekaaGreat

namespace Go.Proofs.YtfoifdoaleaekaaGreat
open Go.RowKit Go.Acc
set_option maxRecDepth 100000 in
set_option maxHeartbeats 2000000 in
theorem leaft_spec (M : Bp) (fl : Int) (b : Bd) (k n : Int) (u : Nat) (s : List UInt8) (A : Option Addr) (an ac : Nat) (B : Option Addr) (bn bc : Nat) (w : World) (o : Nat → Nat) (h : BM M fl w o b) (hrs : RoomS b s) (hrk : RoomK b s)
    (hk : k = 5 ∨ k = 6 ∨ k = 7) (hz : k = 5 → hasZero s = false) :
    Calls Tryz.prog 124 #[.pointer (some ⟨M.β, 0, none⟩), .agg #[.int .i64 k, .int .i64 n, .int .u64 (u : Int), .string ⟨s.toArray⟩, .slice A an ac, .slice B bn bc]] w (BTo M fl (b.leaf (Go.Proofs.YtfoifdoaleaekaaGreat.bits fl) k n u s) w o) := by
  have HB := Lib.hid (show Below w.heap.size w (w.alloc (.cells #[.int .i64 k, .int .i64 n, .int .u64 (u : Int), .string ⟨s.toArray⟩, .slice A an ac, .slice B bn bc] 26)) from (Below.refl _ _).alloc (Nat.le_refl _) _)
  have HM := Lib.hid (h.pure HB.out)
  have HS := Lib.hid hrs
  have HK := Lib.hid hrk
  have HZ := Lib.hid hz
  clear h hrs hrk hz
  rcases hk with rfl | rfl | rfl
  · go_enter Tryz.func124, Tryz.ntmps124
    go_wp2_with fail
    go_at_call 122
    refine (ckey_spec M fl b s _ o HM.out HK.out (HZ.out (by first | rfl | trivial))).mono ?_
    rintro e w2 hR
    obtain rfl := hR.1
    have HR := Lib.hid (hR.from_pure HB.out)
    clear hR
    go_wp2_with fail
    go_end0
    have h := HR.out
    unfold Bd.leaf
    simpa using h
  · go_enter Tryz.func124, Tryz.ntmps124
    go_wp2_with fail
    go_at_call 186
    refine (cstr_spec M fl b s _ o HM.out HS.out).mono ?_
    rintro e w2 hR
    obtain rfl := hR.1
    have HR := Lib.hid (hR.from_pure HB.out)
    clear hR
    go_wp2_with fail
    go_end0
    have h := HR.out
    unfold Bd.leaf
    simpa using h
  · go_enter Tryz.func124, Tryz.ntmps124
    go_wp2_with fail
    go_at_call 187
    refine (cblob_spec M fl b s _ o HM.out HS.out).mono ?_
    rintro e w2 hR
    obtain rfl := hR.1
    have HR := Lib.hid (hR.from_pure HB.out)
    clear hR
    go_wp2_with fail
    go_end0
    have h := HR.out
    unfold Bd.leaf
    simpa using h
end Go.Proofs.YtfoifdoaleaekaaGreat
