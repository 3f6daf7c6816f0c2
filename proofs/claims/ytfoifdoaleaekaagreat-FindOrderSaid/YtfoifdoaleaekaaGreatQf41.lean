/-
  Package build: Key.
  Package encode: calls of a node with flat children.
  Package encode: calls of a node with flat children, from the tree.
  Package key, plain: a checked tree, sorted, is what calls asks for. No program in sight.
  Package encode: calls of checked and sorted trees: plain facts. No program in sight.
  Package encode: calls of a vector.
  Package encode: one entry of a map.
  Package encode: what EndMap needs, from the laws. No program in sight.
  Package encode: a map's entries, one after another: plain facts. No program in sight.
  Package encode: the map's EndMap, from the laws. No program in sight.
  Package encode: calls of a map.
-/
import Derived.Test.YtfoifdoaleaekaaGreatQf40
namespace Go.Proofs.YtfoifdoaleaekaaGreat
open Go.RowKit Go.Acc
set_option maxRecDepth 100000 in
set_option maxHeartbeats 2000000 in
theorem ckey1_spec (M : Bp) (fl : Int) (b : Bd) (s : List UInt8) (bx bs : Nat) (w : World) (o : Nat → Nat) (h : BM M fl w o b) (hc : TxC M s bx bs w o) (hr : RoomK b s) (hz : hasZero s = false) :
    Calls Tryz.prog 172 #[.pointer (some ⟨bx, 0, none⟩), .pointer (some ⟨bs, 0, none⟩)] w (BTo M fl (b.key (Go.Proofs.YtfoifdoaleaekaaGreat.bits fl) s) w o) := by
  have HM := Lib.hid h
  have HR := Lib.hid hr
  have HC := Lib.hid hc
  have HZ := Lib.hid hz
  have HPU := Lib.hid (fun (a : Nat) (x : Bd) (W : World) (O : Nat → Nat) (hM : BM M fl W O x) (hs : x.s.length < 65536) => (show Calls Tryz.prog 173 #[.pointer (some ⟨M.β, 0, none⟩), .agg #[.int .i64 4, .int .i64 1, .int .u64 (a : Int)]] W (BTo M fl (x.push ⟨4, 1, a⟩) W O) from pushp_is M fl x 4 1 a W O hM hs))
  have HST := Lib.hid (show (b.put (Go.Proofs.YtfoifdoaleaekaaGreat.bits fl) s).1.s.length < 65536 by
    have := hr.st
    unfold Bd.put
    split <;> exact this)
  obtain ⟨x0, x1⟩ := hc.cells
  clear h hr hc hz
  go_enter Tryz.func172, Tryz.ntmps172
  go_wp2_with fail
  go_region_held3 (fun w' => w'.cell? ⟨bx, 0, none⟩ = some (.pointer (some ⟨M.β, 0, none⟩)) ∧ w'.cell? ⟨bs, 0, none⟩ = some (.string ⟨s.toArray⟩)) (first | with_reducible exact ⟨x0, x1⟩ | with_reducible exact ⟨kdrew x0, kdrew x1⟩ | with_reducible exact ⟨y0, y1⟩ | with_reducible exact ⟨z0, z1⟩) (first | (go_at_call 166; (with_reducible refine (cput_spec M fl b s _ o HM.out.drew HR.out HZ.out).mono ?_); rintro e w2 ⟨a, ha, rfl, o2, hM2, hT2⟩; have hx2 := HC.out.x.to_ hT2.from_drew (by rw [HC.out.ox]; exact bld_0); have hs2 := HC.out.s.to_ hT2.from_drew (by rw [HC.out.os]; exact bld_0); have y0 : w2.cell? ⟨bx, 0, none⟩ = some (.pointer (some ⟨M.β, 0, none⟩)) := hx2.cell 0; have y1 : w2.cell? ⟨bs, 0, none⟩ = some (.string ⟨s.toArray⟩) := hs2.cell 0; have ox2 : o2 bx = 0 := (hT2.from_drew.ow _ HC.out.x.lt).trans HC.out.ox; have os2 : o2 bs = 0 := (hT2.from_drew.ow _ HC.out.s.lt).trans HC.out.os; have HX2 := Lib.hid hx2; have HS2 := Lib.hid hs2; have HM2 := Lib.hid hM2; have HT2 := Lib.hid hT2.from_drew; have HA := Lib.hid ha; clear hM2 hT2 hx2 hs2 ha) | (go_at_call 173; (with_reducible refine (HPU.out a _ _ o2 HM2.out HST.out).mono ?_); rintro e w3 ⟨rfl, o3, hM3, hT3⟩; have hx3 := HX2.out.to_ hT3 (by rw [ox2]; exact bld_0); have hs3 := HS2.out.to_ hT3 (by rw [os2]; exact bld_0); have z0 : w3.cell? ⟨bx, 0, none⟩ = some (.pointer (some ⟨M.β, 0, none⟩)) := hx3.cell 0; have z1 : w3.cell? ⟨bs, 0, none⟩ = some (.string ⟨s.toArray⟩) := hs3.cell 0; have HM3 := Lib.hid hM3; have HT3 := Lib.hid (HT2.out.trans hT3); clear hM3 hT3 hx3 hs3))
  go_wp2
  go_end0
  refine ⟨rfl, o3, ?_, HT3.out⟩
  show BM M fl w3 o3 ((b.put (Go.Proofs.YtfoifdoaleaekaaGreat.bits fl) s).1.push (b.put (Go.Proofs.YtfoifdoaleaekaaGreat.bits fl) s).2)
  rw [HA.out]
  exact HM3.out
set_option maxHeartbeats 400000 in
theorem ckey_spec (M : Bp) (fl : Int) (b : Bd) (s : List UInt8) (w : World) (o : Nat → Nat) (h : BM M fl w o b) (hr : RoomK b s) (hz : hasZero s = false) :
    Calls Tryz.prog 122 #[.pointer (some ⟨M.β, 0, none⟩), .string ⟨s.toArray⟩] w (BTo M fl (b.key (Go.Proofs.YtfoifdoaleaekaaGreat.bits fl) s) w o) := by
  have HR := Lib.hid hr
  have HZ := Lib.hid hz
  have hB := below_two w (.cells #[.pointer (some ⟨M.β, 0, none⟩)] 122) (.cells #[.string ⟨s.toArray⟩] 9)
  have HB := Lib.hid hB
  have HM := Lib.hid (h.fresh hB 0)
  have HC := Lib.hid (txc_new M s w o)
  clear h hr hB hz
  go_enter Tryz.func122, Tryz.ntmps122
  go_wp2_with fail
  go_at_call 163
  refine (unless_spec M fl 172 _ _ (newO o w.heap.size 0) b.vals _ HM.out.head Tryz.call172 ((ckey1_spec M fl b s w.heap.size (w.heap.size + 1) _ (newO o w.heap.size 0) HM.out HC.out HR.out HZ.out).mono fun e w' h => ⟨h.1, h⟩)).mono ?_
  rintro e w' hR
  obtain rfl := hR.1
  have HR := Lib.hid (hR.from_fresh HB.out)
  clear hR
  go_wp2
  go_end0
  exact HR.out
end Go.Proofs.YtfoifdoaleaekaaGreat

namespace Go.Proofs.YtfoifdoaleaekaaGreat
open Go.RowKit Go.Acc
structure ClC (M : Bp) (x : Nv) (bx bn : Nat) (w : World) (o : Nat → Nat) : Prop where
  bx_ : Blk w bx 122 #[.pointer (some ⟨M.β, 0, none⟩)]
  bn_ : Blk w bn 26 #[.int .i64 x.k, .int .i64 x.n, .int .u64 (x.u : Int), .string ⟨x.s.toArray⟩, .slice x.A x.an x.ac, .slice x.B x.bn x.bc]
  ox : o bx = 0
  on : o bn = 0
theorem ClC.to_ {M : Bp} {x : Nv} {bx bn : Nat} {w w' : World} {o o' : Nat → Nat} {I : Nat → Prop} (h : ClC M x bx bn w o) (ht : To I w o w' o') (h0 : ¬ I 0) : ClC M x bx bn w' o' :=
  ⟨h.bx_.to_ ht (by rw [h.ox]; exact h0), h.bn_.to_ ht (by rw [h.on]; exact h0), (ht.ow _ h.bx_.lt).trans h.ox, (ht.ow _ h.bn_.lt).trans h.on⟩
theorem ClC.cells {M : Bp} {x : Nv} {bx bn : Nat} {w : World} {o : Nat → Nat} (h : ClC M x bx bn w o) : w.cell? ⟨bx, 0, none⟩ = some (.pointer (some ⟨M.β, 0, none⟩)) ∧ w.cell? ⟨bn, 0, none⟩ = some (.int .i64 x.k) ∧ w.cell? ⟨bn, 1, none⟩ = some (.int .i64 x.n) ∧ w.cell? ⟨bn, 2, none⟩ = some (.int .u64 (x.u : Int)) ∧ w.cell? ⟨bn, 3, none⟩ = some (.string ⟨x.s.toArray⟩) ∧ w.cell? ⟨bn, 4, none⟩ = some (.slice x.A x.an x.ac) ∧ w.cell? ⟨bn, 5, none⟩ = some (.slice x.B x.bn x.bc) :=
  ⟨h.bx_.cell 0, h.bn_.cell 0, h.bn_.cell 1, h.bn_.cell 2, h.bn_.cell 3, h.bn_.cell 4, h.bn_.cell 5⟩
theorem clc_new (M : Bp) (x : Nv) (w : World) (o : Nat → Nat) : ClC M x w.heap.size (w.heap.size + 1) ((w.alloc (.cells #[.pointer (some ⟨M.β, 0, none⟩)] 122)).alloc (.cells #[.int .i64 x.k, .int .i64 x.n, .int .u64 (x.u : Int), .string ⟨x.s.toArray⟩, .slice x.A x.an x.ac, .slice x.B x.bn x.bc] 26)) (newO o w.heap.size 0) :=
  ⟨(Blk.new w 122 #[.pointer (some ⟨M.β, 0, none⟩)]).alloc _, blk_new2 w _ 26 #[.int .i64 x.k, .int .i64 x.n, .int .u64 (x.u : Int), .string ⟨x.s.toArray⟩, .slice x.A x.an x.ac, .slice x.B x.bn x.bc], newO_new (Nat.le_refl _), newO_new (by omega)⟩
end Go.Proofs.YtfoifdoaleaekaaGreat

namespace Go.Proofs.YtfoifdoaleaekaaGreat
open Go.RowKit Go.Acc
def NumOk (t : Tr) : Prop := (-9223372036854775808 ≤ t.n ∧ t.n ≤ 9223372036854775807) ∧ t.u < 18446744073709551616
inductive CalOk : Tr → Prop
  | leaf {k n : Int} {u : Nat} (s : List UInt8) (ks c) (h1 : 1 ≤ k) (h2 : k ≤ 9) (hn : (-9223372036854775808 ≤ n ∧ n ≤ 9223372036854775807) ∧ u < 18446744073709551616) (hz : k = 5 → hasZero s = false) : CalOk (.mk k n u s ks c)
  | flat {k : Int} {c : List Tr} (n u s ks) (h1 : 11 ≤ k) (h2 : k ≤ 16) (hn : ∀ t ∈ c, NumOk t) (hz : k = 13 → ∀ t ∈ c, hasZero t.s = false) (hf : k = 15 ∨ k = 16 → c.length = 2 ∨ c.length = 3 ∨ c.length = 4) : CalOk (.mk k n u s ks c)
  | vec {c : List Tr} (n u s ks) (h : ∀ t ∈ c, CalOk t) : CalOk (.mk 10 n u s ks c)
  | map {c : List Tr} {ks : List (List UInt8)} (n u s) (hl : ks.length = c.length) (h0 : ∀ x ∈ ks, hasZero x = false) (hu : ks.Pairwise (· < ·)) (h : ∀ t ∈ c, CalOk t) : CalOk (.mk 17 n u s ks c)
end Go.Proofs.YtfoifdoaleaekaaGreat

namespace Go.Proofs.YtfoifdoaleaekaaGreat
open Go.Acc
theorem NumT.ok {t : Tr} (h : NumT t) : NumOk t := by
  cases h with
  | mk h1 h2 _ => exact ⟨h1, h2⟩
end Go.Proofs.YtfoifdoaleaekaaGreat

namespace Go.Proofs.YtfoifdoaleaekaaGreat
open Go.Acc
theorem CalOk.ok {t : Tr} (h : CalOk t) : Ok t := by
  induction h with
  | leaf s ks c h1 h2 hn hz => exact .leaf _ _ _ _ _ h1 h2
  | flat n u s ks h1 h2 hn hz hf => exact .flat _ _ _ _ _ h1 h2
  | vec n u s ks h ih => exact .vec _ _ _ _ ih
  | map n u s hl h0 hu h ih => exact .map _ _ _ hl (fun x hx => hasZero_no (h0 x hx)) ih
theorem CalOk.fix {t : Tr} (h : CalOk t) : FixOk t := by
  cases h with
  | leaf s ks c h1 h2 hn hz =>
    rename_i k n u
    intro hk
    have hk : k = 15 ∨ k = 16 := hk
    omega
  | flat n u s ks h1 h2 hn hz hf => exact fun hk => hf hk
  | vec n u s ks h =>
    intro hk
    have hk : (10 : Int) = 15 ∨ (10 : Int) = 16 := hk
    omega
  | map n u s hl h0 hu h =>
    intro hk
    have hk : (17 : Int) = 15 ∨ (17 : Int) = 16 := hk
    omega
theorem costL_app : ∀ (l m : List Tr), Tr.costL (l ++ m) = Tr.costL l + Tr.costL m
  | [], m => by simp [Tr.costL]
  | x :: r, m => by rw [List.cons_append, Tr.costL, Tr.costL, costL_app r m]; omega
theorem reps_ok {l : List UInt8} {c : List Tr} {vs : List Bv} (hl : vs.length = c.length) (h : ∀ (i : Nat) x t, vs[i]? = some x → c[i]? = some t → Rep l x t) (hf : ∀ t ∈ c, FixOk t) (hm : l.length + 40 + 9 * vs.length ≤ 1048576) : VecOk vs l := by
  have hv : ∀ v ∈ vs, ∃ t ∈ c, Rep l v t := by
    intro v hv
    obtain ⟨i, hi, e⟩ := List.getElem_of_mem hv
    exact ⟨c[i]'(by omega), List.getElem_mem _, h i v _ (by rw [List.getElem?_eq_getElem hi, e]) (List.getElem?_eq_getElem (by omega))⟩
  refine ⟨fun v hm => ?_, fun v hm => ?_, reps_fit hl h, hm⟩
  · obtain ⟨t, ht, r⟩ := hv v hm
    exact (r.legal (hf t ht)).1
  · obtain ⟨t, ht, r⟩ := hv v hm
    exact (r.legal (hf t ht)).2.1
end Go.Proofs.YtfoifdoaleaekaaGreat

namespace Go.Proofs.YtfoifdoaleaekaaGreat
open Go.RowKit Go.Acc
def CallsD (t : Tr) : Prop := ∀ (M : Bp) (fl : Int) (b : Bd) (x : Nv) (w : World) (o : Nat → Nat) (p : Nat → Prop), BM M fl w o b → Good b → NOk b → NodeR w p x t → (∀ k, p k → k < w.heap.size ∧ o k = 0) → b.size + t.cost ≤ 65000 →
  Calls Tryz.prog 74 #[.pointer (some ⟨M.β, 0, none⟩), .agg #[.int .i64 x.k, .int .i64 x.n, .int .u64 (x.u : Int), .string ⟨x.s.toArray⟩, .slice x.A x.an x.ac, .slice x.B x.bn x.bc]] w (BTo M fl (Bd.calls (Go.Proofs.YtfoifdoaleaekaaGreat.bits fl) t b) w o)
end Go.Proofs.YtfoifdoaleaekaaGreat

namespace Go.Proofs.YtfoifdoaleaekaaGreat
open Go.RowKit Go.Acc
set_option maxRecDepth 100000 in
set_option maxHeartbeats 4000000 in
theorem entry_spec (M : Bp) (fl : Int) (b : Bd) (x v : Nv) (t : Tr) (s : List UInt8) (j g1 o1 g2 o2 bx bn : Nat) (w : World) (o : Nat → Nat) (p : Nat → Prop) (h : BM M fl w o b) (hg : Good b) (hn : NOk b) (hC : ClC M x bx bn w o) (hp : ∀ k, p k → k < w.heap.size ∧ o k = 0)
    (eA : x.A = some ⟨g1, o1, none⟩) (eB : x.B = some ⟨g2, o2, none⟩) (pA : p g1) (pB : p g2) (hja : j < x.an) (hjb : j < x.bn) (hs : w.cell? ⟨g1, o1 + j, none⟩ = some (.string ⟨s.toArray⟩))
    (hv : ∀ i u, #[Value.int .i64 v.k, .int .i64 v.n, .int .u64 (v.u : Int), .string ⟨v.s.toArray⟩, .slice v.A v.an v.ac, .slice v.B v.bn v.bc][i]? = some u → w.cell? ⟨g2, o2 + j * 6 + i, none⟩ = some u) (hR : NodeR w p v t) (hD : CallsD t) (hz : hasZero s = false) (hk : RoomK b s) (hm : (b.key (Go.Proofs.YtfoifdoaleaekaaGreat.bits fl) s).size + t.cost ≤ 65000) :
    Calls Tryz.prog 121 #[.int .i64 (j : Int), .pointer (some ⟨bx, 0, none⟩), .pointer (some ⟨bn, 0, none⟩)] w (BTo M fl (Bd.calls (Go.Proofs.YtfoifdoaleaekaaGreat.bits fl) t (b.key (Go.Proofs.YtfoifdoaleaekaaGreat.bits fl) s)) w o) := by
  obtain ⟨f, hf⟩ : ∃ f, Go.Proofs.YtfoifdoaleaekaaGreat.bits fl = f := ⟨_, rfl⟩
  have hck := ckey_spec M fl b s w.drew o h.drew hk hz
  rw [hf] at hck hm ⊢
  have gk : Good (b.key f s) := (key_law f s b hg).elim fun _ h => h.2.1.2
  have nk : NOk (b.key f s) := ⟨(put_names f s b hn).1.ok.1, (put_names f s b hn).1.ok.2⟩
  have HCK := Lib.hid hck
  have HG := Lib.hid gk
  have HN := Lib.hid nk
  have HM := Lib.hid hm
  have HD := Lib.hid hD
  have HR := Lib.hid hR
  have HP := Lib.hid hp
  have HPP := Lib.hid (And.intro pA pB)
  have HC := Lib.hid hC
  have HF := Lib.hid hf
  have HV := Lib.hid hv
  obtain ⟨x0, _, _, _, _, x5, _⟩ := hC.cells
  rw [eA] at x5
  have hj0 : (0 : Int) ≤ (j : Int) := by omega
  have hja' : (j : Int) < (x.an : Int) := by omega
  have hjb' : (j : Int) < (x.bn : Int) := by omega
  have HEB := Lib.hid eB
  clear h hg hn hC hp pA pB hv hR hD hz hk hm hck gk nk hf eA eB
  go_enter Tryz.func121, Tryz.ntmps121
  go_wp2_with fail
  go_region_held3 (fun w' => w'.cell? ⟨bx, 0, none⟩ = some (.pointer (some ⟨M.β, 0, none⟩)) ∧ w'.cell? ⟨bn, 4, none⟩ = some (.slice (some ⟨g1, o1, none⟩) x.an x.ac) ∧ w'.cell? ⟨g1, o1 + j, none⟩ = some (.string ⟨s.toArray⟩)) (first | with_reducible exact ⟨x0, x5, hs⟩ | with_reducible exact ⟨kdrew x0, kdrew x5, kdrew hs⟩ | with_reducible exact ⟨y0, y5, ys⟩) (first
    | (go_at_call 122; (with_reducible refine HCK.out.mono ?_); rintro e w2 ⟨rfl, oo, hM2, hT2⟩; have hT2' := hT2.from_drew; have hC2 := HC.out.to_ hT2' bld_0; have y0 := hC2.cells.1; have y5 : w2.cell? ⟨bn, 4, none⟩ = some (.slice (some ⟨g1, o1, none⟩) x.an x.ac) := to_cell hT2' x5 (by rw [HC.out.on]; exact bld_0); have ys : w2.cell? ⟨g1, o1 + j, none⟩ = some (.string ⟨s.toArray⟩) := to_cell hT2' hs (by rw [(HP.out _ HPP.out.1).2]; exact bld_0); have HC2 := Lib.hid hC2; have HM2 := Lib.hid hM2; have HT2 := Lib.hid hT2'; clear hM2 hT2 hT2' hC2))
  clear x0 x5 y0 y5 ys
  obtain ⟨x0, _, _, _, _, _, x6⟩ := HC2.out.cells
  rw [HEB.out] at x6
  have hc : ∀ i u, #[Value.int .i64 v.k, .int .i64 v.n, .int .u64 (v.u : Int), .string ⟨v.s.toArray⟩, .slice v.A v.an v.ac, .slice v.B v.bn v.bc][i]? = some u → w2.cell? ⟨g2, o2 + j * 6 + i, none⟩ = some u := fun i u e => to_cell HT2.out (HV.out i u e) (by rw [(HP.out _ HPP.out.2).2]; exact bld_0)
  have c0 : w2.cell? ⟨g2, o2 + j * 6, none⟩ = some (.int .i64 v.k) := hc 0 _ rfl
  have c1 : w2.cell? ⟨g2, o2 + j * 6 + 1, none⟩ = some (.int .i64 v.n) := hc 1 _ rfl
  have c2 : w2.cell? ⟨g2, o2 + j * 6 + 2, none⟩ = some (.int .u64 (v.u : Int)) := hc 2 _ rfl
  have c3 : w2.cell? ⟨g2, o2 + j * 6 + 3, none⟩ = some (.string ⟨v.s.toArray⟩) := hc 3 _ rfl
  have c4 : w2.cell? ⟨g2, o2 + j * 6 + 4, none⟩ = some (.slice v.A v.an v.ac) := hc 4 _ rfl
  have c5 : w2.cell? ⟨g2, o2 + j * 6 + 5, none⟩ = some (.slice v.B v.bn v.bc) := hc 5 _ rfl
  have hcd := HD.out M fl (b.key f s) v w2.drew oo p HM2.out.drew HG.out HN.out ((HR.out.to_ HT2.out (fun q hq => by rw [(HP.out q hq).2]; exact bld_0)).pure (Below.refl _ _).drew) (fun q hq => ⟨Nat.lt_of_lt_of_le (HP.out q hq).1 HT2.out.size, (HT2.out.ow _ (HP.out q hq).1).trans (HP.out q hq).2⟩) HM.out
  rw [HF.out] at hcd
  have HCD := Lib.hid hcd
  clear hc hcd
  go_wp2_with fail
  go_region_held3 (fun w' => w'.cell? ⟨bx, 0, none⟩ = some (.pointer (some ⟨M.β, 0, none⟩)) ∧ w'.cell? ⟨bn, 5, none⟩ = some (.slice (some ⟨g2, o2, none⟩) x.bn x.bc) ∧ w'.cell? ⟨g2, o2 + j * 6, none⟩ = some (.int .i64 v.k) ∧ w'.cell? ⟨g2, o2 + j * 6 + 1, none⟩ = some (.int .i64 v.n) ∧ w'.cell? ⟨g2, o2 + j * 6 + 2, none⟩ = some (.int .u64 (v.u : Int)) ∧ w'.cell? ⟨g2, o2 + j * 6 + 3, none⟩ = some (.string ⟨v.s.toArray⟩) ∧ w'.cell? ⟨g2, o2 + j * 6 + 4, none⟩ = some (.slice v.A v.an v.ac) ∧ w'.cell? ⟨g2, o2 + j * 6 + 5, none⟩ = some (.slice v.B v.bn v.bc)) (first | with_reducible exact ⟨x0, x6, c0, c1, c2, c3, c4, c5⟩ | with_reducible exact ⟨kdrew x0, kdrew x6, kdrew c0, kdrew c1, kdrew c2, kdrew c3, kdrew c4, kdrew c5⟩ | with_reducible exact ⟨z0, z6, d0, d1, d2, d3, d4, d5⟩) (first
    | (go_at_call 74; (with_reducible refine HCD.out.mono ?_); rintro e w3 ⟨rfl, o3, hM3, hT3⟩; have hT3' := hT3.from_drew; have hog : ¬ Bld (oo g2) := by { rw [(HT2.out.ow _ (HP.out _ HPP.out.2).1), (HP.out _ HPP.out.2).2]; exact bld_0 }; have z0 := (HC2.out.to_ hT3' bld_0).cells.1; have z6 := to_cell hT3' x6 (by rw [HC2.out.on]; exact bld_0); have d0 := to_cell hT3' c0 hog; have d1 := to_cell hT3' c1 hog; have d2 := to_cell hT3' c2 hog; have d3 := to_cell hT3' c3 hog; have d4 := to_cell hT3' c4 hog; have d5 := to_cell hT3' c5 hog; have HM3 := Lib.hid hM3; have HT3 := Lib.hid (HT2.out.trans hT3'); clear hM3 hT3 hT3'))
  go_wp2_with fail
  go_end0
  exact ⟨rfl, o3, HM3.out, HT3.out⟩
end Go.Proofs.YtfoifdoaleaekaaGreat

namespace Go.Proofs.YtfoifdoaleaekaaGreat
open Go.Acc
theorem callsM_take (f : Nat) : ∀ (l : List Tr) (ks : List (List UInt8)) (t : Tr) (s : List UInt8) (b : Bd), ks.length = l.length → Bd.callsM f (ks ++ [s]) (l ++ [t]) b = Bd.calls f t ((Bd.callsM f ks l b).key f s)
  | [], ks, t, s, b, h => by
    obtain rfl : ks = [] := List.eq_nil_of_length_eq_zero h
    simp [Bd.callsM]
  | x :: r, [], t, s, b, h => by simp at h
  | x :: r, k :: ks, t, s, b, h => by
    rw [List.cons_append, List.cons_append, Bd.callsM, Bd.callsM]
    exact callsM_take f r ks t s _ (by simpa using h)
theorem tab_ok {ks : List (List UInt8)} {kvs vs st : List Bv} {b : Bd} (hg : Good b) (hk : KeysAt b.b ks kvs) (h0 : ∀ x ∈ ks, hasZero x = false) (hv : VecOk vs b.b) (hl : vs.length = kvs.length) (hm : b.size + 100 + 18 * kvs.length ≤ 1000000) (hs : st.length < 65536) : TabOk (listOf ks) kvs vs { b with s := st } := by
  have hsz : b.b.length + b.lists.length + b.vals.length ≤ b.size := by unfold Bd.size; omega
  have hkl : kvs.length = ks.length := hk.1
  obtain ⟨hok, hel⟩ := keysAt_ok hk (by omega)
  have hlen := bVec_len 14 true false kvs b.b
  obtain ⟨m, hmm⟩ := vecB_app 14 true false kvs b.b
  have hge : b.b.length ≤ (bVec 14 true false kvs b.b).1.length := by rw [hmm, List.length_append]; omega
  refine ⟨hok, hel, hv, ⟨hv.legal, hv.own, fun v h => (hv.fit v h).mono hge, ?_⟩, fitAll8 (fun x e => by cases e) hok.fit, ?_, fun i e => ?_, ?_, ?_, hs⟩
  · show (bVec 14 true false kvs b.b).1.length + 40 + 9 * vs.length ≤ 1048576
    omega
  · have h := vecB_fit 14 true false kvs b.b []
    rw [List.append_nil] at h
    exact h
  · obtain ⟨kv, kvs', h1, _, h3⟩ := hg.lists ks (fun s hs => hasZero_no (h0 s hs)) i e
    have hf := h3.fit
    obtain ⟨b0, m0, _, e2, h4⟩ := h3
    exact ⟨kv, h1, by rw [e2]; rfl, by rw [e2]; exact fitAll8 (fun x e => by cases e) h4, hf⟩
  · show b.lists.length ≤ 1048575
    omega
  · show b.vals.length ≤ 1048576
    omega
end Go.Proofs.YtfoifdoaleaekaaGreat

namespace Go.Proofs.YtfoifdoaleaekaaGreat
open Go.Acc
theorem keysCost_at {ks : List (List UInt8)} {j : Nat} {s : List UInt8} (hs : ks[j]? = some s) : keysCost (ks.take j) + (s.length + 20) ≤ keysCost ks := by
  obtain ⟨hj, e⟩ := List.getElem?_eq_some_iff.1 hs
  have h : keysCost ks = keysCost (ks.take j) + (s.length + 20 + keysCost (ks.drop (j + 1))) := by
    conv => lhs; rw [← List.take_append_drop j ks, List.drop_eq_getElem_cons hj, e]
    rw [keysCost_app]; rfl
  omega
theorem costL_at {c : List Tr} {j : Nat} {t : Tr} (ht : c[j]? = some t) : Tr.costL (c.take j) + (40 + t.cost) ≤ Tr.costL c := by
  obtain ⟨hj, e⟩ := List.getElem?_eq_some_iff.1 ht
  have h : Tr.costL c = Tr.costL (c.take j) + (40 + t.cost + Tr.costL (c.drop (j + 1))) := by
    conv => lhs; rw [← List.take_append_drop j c, List.drop_eq_getElem_cons hj, e]
    rw [costL_app, Tr.costL]
  omega
theorem entries_step (f : Nat) {ks : List (List UInt8)} {c : List Tr} (hl : ks.length = c.length) (hO : ∀ t ∈ c, CalOk t) {b : Bd} (hg : Good b) (hn : NOk b) (hm : b.size + keysCost ks + Tr.costL c ≤ 65000) (j : Nat) :
    Good (Bd.callsM f (ks.take j) (c.take j) b) ∧ NOk (Bd.callsM f (ks.take j) (c.take j) b) ∧ (∀ t s, c[j]? = some t → ks[j]? = some s → RoomK (Bd.callsM f (ks.take j) (c.take j) b) s ∧ ((Bd.callsM f (ks.take j) (c.take j) b).key f s).size + t.cost ≤ 65000) := by
  have hD : ∀ t ∈ c.take j, Does f t := fun t ht => calls_law f t (hO t (List.mem_of_mem_take ht)).ok
  have hl' : (ks.take j).length = (c.take j).length := by rw [List.length_take, List.length_take, hl]
  obtain ⟨kvs, vs, _, _, s1, _, _⟩ := callsM_law f (c.take j) (ks.take j) hl' hD b hg
  refine ⟨s1.2, (callsM_names f (c.take j) (ks.take j) hl' hD (fun t ht => calls_names f t (hO t (List.mem_of_mem_take ht)).ok) b hg hn).1.ok, fun t s ht hs => ?_⟩
  have h1 := callsM_size f (c.take j) (ks.take j) hl' hD (fun t ht => calls_size f t (hO t (List.mem_of_mem_take ht)).ok) b hg
  have h2 := keysCost_at hs
  have h3 := costL_at ht
  have h4 := key_size f s (Bd.callsM f (ks.take j) (c.take j) b)
  have h5 : (Bd.callsM f (ks.take j) (c.take j) b).b.length + (Bd.callsM f (ks.take j) (c.take j) b).s.length + (Bd.callsM f (ks.take j) (c.take j) b).keys.length + (Bd.callsM f (ks.take j) (c.take j) b).names.length ≤ (Bd.callsM f (ks.take j) (c.take j) b).size := by unfold Bd.size; omega
  exact ⟨⟨by omega, by omega, by omega, by omega⟩, by omega⟩
end Go.Proofs.YtfoifdoaleaekaaGreat

namespace Go.Proofs.YtfoifdoaleaekaaGreat
open Go.Acc
theorem em_ok (f : Nat) {ks : List (List UInt8)} {c : List Tr} (hl : ks.length = c.length) (h0 : ∀ x ∈ ks, hasZero x = false) (hu : ks.Pairwise (· < ·)) (hO : ∀ t ∈ c, CalOk t) {b : Bd} (hg : Good b) (hn : NOk b) (hm : b.size + keysCost ks + Tr.costL c ≤ 65000) :
    ∃ kvs vs, EmOk ks kvs vs b.s.length (Bd.callsM f ks c b) := by
  have hD : ∀ t ∈ c, Does f t := fun t ht => calls_law f t (hO t ht).ok
  obtain ⟨kvs, vs, e1, l1, s1, k1, r1⟩ := callsM_law f c ks hl hD b hg
  obtain ⟨n1, kvs', vs', e2, l2, l3, nm⟩ := callsM_names f c ks hl hD (fun t ht => calls_names f t (hO t ht).ok) b hg hn
  have hsz := callsM_size f c ks hl hD (fun t ht => calls_size f t (hO t ht).ok) b hg
  have hkl : kvs.length = ks.length := k1.1
  have hvl : vs.length = kvs.length := by omega
  have e3 : both kvs vs = both kvs' vs' := List.append_cancel_left (e1.symm.trans e2)
  obtain ⟨a1, a2⟩ := evens_both kvs vs hvl.symm
  obtain ⟨a3, a4⟩ := evens_both kvs' vs' (by omega)
  obtain rfl : kvs = kvs' := by rw [← a1, e3, a3]
  have hd : (Bd.callsM f ks c b).s.drop b.s.length = both kvs vs := by rw [e1]; simp
  have hb := both_len kvs vs hvl.symm
  have hs : (Bd.callsM f ks c b).s.length = b.s.length + 2 * kvs.length := by rw [e1, List.length_append, hb]
  have hbs : b.s.length ≤ b.size := by unfold Bd.size; omega
  have hss : (Bd.callsM f ks c b).s.length + (Bd.callsM f ks c b).b.length ≤ (Bd.callsM f ks c b).size := by unfold Bd.size; omega
  have hcl := costL_len c
  have hll := listOf_len ks
  have hok : VecOk vs (Bd.callsM f ks c b).b := reps_ok l1 r1 (fun t ht => (hO t ht).fix) (by omega)
  refine ⟨kvs, vs, hd, hkl, by omega, nm, fun x hx => ?_, hu, by omega, by omega, by omega, by omega, ?_⟩
  · have := n1.ok.lt x hx
    omega
  · exact tab_ok s1.2 k1 h0 hok hvl (by omega) (by rw [List.length_take]; omega)
end Go.Proofs.YtfoifdoaleaekaaGreat

namespace Go.Proofs.YtfoifdoaleaekaaGreat
open Go.RowKit Go.Acc
set_option maxRecDepth 100000 in
set_option maxHeartbeats 4000000 in
theorem callsmap_spec (n : Int) (u : Nat) (s : List UInt8) (ks : List (List UInt8)) (c : List Tr) (hkc : ks.length = c.length) (h0 : ∀ x ∈ ks, hasZero x = false) (hu : ks.Pairwise (· < ·)) (hO : ∀ t ∈ c, CalOk t) (hD : ∀ t ∈ c, CallsD t) : CallsD (.mk 17 n u s ks c) := by
  intro M fl b x w o p h hg hn hR hp hm
  obtain ⟨f, hf⟩ : ∃ f, Go.Proofs.YtfoifdoaleaekaaGreat.bits fl = f := ⟨_, rfl⟩
  rw [hf]
  obtain ⟨hk, _, _, _, _, hbn⟩ := hR.fields
  have hk : 17 = x.k := hk
  have hbn : c.length = x.bn := hbn
  have hmc : b.size + keysCost ks + Tr.costL c ≤ 65000 := by unfold Tr.cost at hm; omega
  have ecl := costL_len c
  generalize ht : Tr.mk 17 n u s ks c = t0 at hR
  cases hR with
  | @mk _ ks' l' vs hKs hka _ _ hI hpb _ _ hl hc =>
    injection ht with e1 e2 e3 e4 e5 e6
    subst e5 e6
    obtain ⟨k, xn, xu, xs, XA, xan, xac, XB, xbn, xbc⟩ := x
    obtain rfl : 17 = k := hk
    clear e1 e2 e3 e4
    have hbn : c.length = xbn := hbn
    have hI : IsN w XB xbn vs := hI
    have hpb : ∀ ad, XB = some ad → p ad.block := hpb
    have HI := Lib.hid hI
    have hKs : IsS w XA xan ks := hKs
    have hka : ∀ ad, XA = some ad → p ad.block := hka
    have HKS := Lib.hid hKs
    have HKA := Lib.hid hka
    have HKC := Lib.hid (show ks.length = c.length from hkc)
    have HXA := Lib.hid (show ks.length = xan by have := hKs.1; simpa using this)
    have HZ := Lib.hid h0
    have HKR := Lib.hid (show ∀ (i : Nat) v t, vs[i]? = some v → c[i]? = some t → NodeR w p v t from hc)
    have HD := Lib.hid hD
    have HP := Lib.hid hp
    have HPB := Lib.hid hpb
    have HF := Lib.hid hf
    have HBN := Lib.hid hbn
    have HVL := Lib.hid hl
    have HST := Lib.hid (fun j => entries_step f hkc hO hg hn hmc j)
    have HBL := Lib.hid (show b.s.length ≤ 65000 by unfold Bd.size at hmc; omega)
    have hB := below_two w (.cells #[.pointer (some ⟨M.β, 0, none⟩)] 122) (.cells #[.int .i64 (⟨17, xn, xu, xs, XA, xan, xac, XB, xbn, xbc⟩ : Nv).k, .int .i64 (⟨17, xn, xu, xs, XA, xan, xac, XB, xbn, xbc⟩ : Nv).n, .int .u64 ((⟨17, xn, xu, xs, XA, xan, xac, XB, xbn, xbc⟩ : Nv).u : Int), .string ⟨(⟨17, xn, xu, xs, XA, xan, xac, XB, xbn, xbc⟩ : Nv).s.toArray⟩, .slice (⟨17, xn, xu, xs, XA, xan, xac, XB, xbn, xbc⟩ : Nv).A (⟨17, xn, xu, xs, XA, xan, xac, XB, xbn, xbc⟩ : Nv).an (⟨17, xn, xu, xs, XA, xan, xac, XB, xbn, xbc⟩ : Nv).ac, .slice (⟨17, xn, xu, xs, XA, xan, xac, XB, xbn, xbc⟩ : Nv).B (⟨17, xn, xu, xs, XA, xan, xac, XB, xbn, xbc⟩ : Nv).bn (⟨17, xn, xu, xs, XA, xan, xac, XB, xbn, xbc⟩ : Nv).bc] 26)
    have HT0 := Lib.hid (To.fresh Bld hB o 0)
    have HM0 := Lib.hid (h.fresh hB 0)
    have HC0 := Lib.hid (clc_new M ⟨17, xn, xu, xs, XA, xan, xac, XB, xbn, xbc⟩ w o)
    obtain ⟨m, hmm⟩ : ∃ m, b.s.length = m := ⟨_, rfl⟩
    have HMM := Lib.hid hmm
    have hxl : xbn ≤ 65000 := by omega
    obtain ⟨kvs, vs', hem⟩ := em_ok f hkc h0 hu hO hg hn hmc
    rw [hmm] at hem
    have HEM := Lib.hid hem
    have HEQ := Lib.hid (show Bd.calls f (.mk 17 xn xu xs ks c) b = (Bd.callsM f ks c b).endMap f ks m by rw [Bd.calls, if_neg (by omega), if_pos rfl, hmm])
    clear h hg hn hp hm hI hpb hl hc hD hO hf hB hmm hem hmc ecl hKs hka h0 hu hkc
    go_enter Tryz.func74, Tryz.ntmps74
    go_upto_region 1 with fail
    generalize (w.alloc (.cells #[.pointer (some ⟨M.β, 0, none⟩)] 122)).alloc (.cells #[.int .i64 (⟨17, xn, xu, xs, XA, xan, xac, XB, xbn, xbc⟩ : Nv).k, .int .i64 (⟨17, xn, xu, xs, XA, xan, xac, XB, xbn, xbc⟩ : Nv).n, .int .u64 ((⟨17, xn, xu, xs, XA, xan, xac, XB, xbn, xbc⟩ : Nv).u : Int), .string ⟨(⟨17, xn, xu, xs, XA, xan, xac, XB, xbn, xbc⟩ : Nv).s.toArray⟩, .slice (⟨17, xn, xu, xs, XA, xan, xac, XB, xbn, xbc⟩ : Nv).A (⟨17, xn, xu, xs, XA, xan, xac, XB, xbn, xbc⟩ : Nv).an (⟨17, xn, xu, xs, XA, xan, xac, XB, xbn, xbc⟩ : Nv).ac, .slice (⟨17, xn, xu, xs, XA, xan, xac, XB, xbn, xbc⟩ : Nv).B (⟨17, xn, xu, xs, XA, xan, xac, XB, xbn, xbc⟩ : Nv).bn (⟨17, xn, xu, xs, XA, xan, xac, XB, xbn, xbc⟩ : Nv).bc] 26) = w1 at HT0 HM0 HC0 ⊢
    generalize newO o w.heap.size 0 = o1 at HT0 HM0 HC0
    generalize w.heap.size + 1 = bn at HC0 ⊢
    generalize w.heap.size = bx at HC0 ⊢
    obtain ⟨x0, x1, x2, x3, x4, x5, x6⟩ := HC0.out.cells
    go_wp2_with fail
    go_at_call 120
    refine (cmap_spec M fl b m _ o1 HM0.out HMM.out).mono ?_
    rintro e w' ⟨rfl, rfl⟩
    go_wp2_with fail
    go_loopw [77] (fun uu wr => ∃ j : Nat, j ≤ xbn ∧ uu = .int .i64 (j : Int) ∧ ∃ o', BM M fl wr o' (Bd.callsM f (ks.take j) (c.take j) b) ∧ To Bld w o wr o' ∧ ClC M ⟨17, xn, xu, xs, XA, xan, xac, XB, xbn, xbc⟩ bx bn wr o') (fun uu _ => xbn - (intOf uu).toNat)
    case atStart => exact ⟨0, Nat.zero_le _, rfl, o1, by rw [List.take_zero, List.take_zero]; exact HM0.out, HT0.out, HC0.out⟩
    case round =>
      obtain ⟨j, hj, rfl, o', hMr, hTr, hCr⟩ := hrel
      have HMR := Lib.hid hMr
      have HTR := Lib.hid hTr
      have HCR := Lib.hid hCr
      clear hMr hTr hCr x0 x1 x2 x3 x4 x5 x6
      obtain ⟨x0, x1, x2, x3, x4, x5, x6⟩ := HCR.out.cells
      by_cases hlt : j < xbn
      · obtain ⟨v, hv⟩ : ∃ v, vs[j]? = some v := ⟨_, List.getElem?_eq_getElem (by have h1 := HVL.out; have h2 := HBN.out; omega)⟩
        obtain ⟨t, ht⟩ : ∃ t, c[j]? = some t := ⟨_, List.getElem?_eq_getElem (by have h2 := HBN.out; omega)⟩
        have hp' : ∀ q, p q → q < w.heap.size ∧ o q = 0 := HP.out
        have hIr : IsN wr XB xbn vs := HI.out.fr HTR.out.fr (fun ad e => by rw [(hp' _ (HPB.out ad e)).2]; exact bld_0)
        have hKr : IsS wr XA xan ks := HKS.out.fr HTR.out.fr (fun ad e => by rw [(hp' _ (HKA.out ad e)).2]; exact bld_0)
        have hja : j < xan := by have h1 := HXA.out; have h2 := HKC.out; have h3 := HBN.out; omega
        obtain ⟨g2, o2, e, v0, v1, v2, v3, v4, v5⟩ := isn_at hIr hv
        obtain ⟨g1, o1', eA, hk', hs⟩ := iss_at hKr hja
        have hks : ks[j]? = some ks[j] := List.getElem?_eq_getElem hk'
        have hes := HST.out j
        have hE := entry_spec M fl (Bd.callsM f (ks.take j) (c.take j) b) ⟨17, xn, xu, xs, XA, xan, xac, XB, xbn, xbc⟩ v t ks[j] j g1 o1' g2 o2 bx bn wr o' p HMR.out hes.1 hes.2.1 HCR.out (fun q hq => ⟨Nat.lt_of_lt_of_le (hp' q hq).1 HTR.out.size, (HTR.out.ow _ (hp' q hq).1).trans (hp' q hq).2⟩) eA e (HKA.out _ eA) (HPB.out _ e) hja hlt hs
          (fun i u hu => by match i, hu with
            | 0, hu => simp at hu; rw [← hu]; exact v0
            | 1, hu => simp at hu; rw [← hu]; exact v1
            | 2, hu => simp at hu; rw [← hu]; exact v2
            | 3, hu => simp at hu; rw [← hu]; exact v3
            | 4, hu => simp at hu; rw [← hu]; exact v4
            | 5, hu => simp at hu; rw [← hu]; exact v5
            | i + 6, hu => simp at hu)
          ((HKR.out j v t hv ht).to_ HTR.out (fun q hq => by rw [(hp' q hq).2]; exact bld_0)) (HD.out t (List.mem_of_getElem? ht)) (HZ.out _ (List.getElem_mem _)) (hes.2.2 t _ ht hks).1 (by rw [HF.out]; exact (hes.2.2 t _ ht hks).2)
        rw [HF.out] at hE
        have HCD := Lib.hid hE
        have HSN := Lib.hid (show Bd.callsM f (ks.take (j + 1)) (c.take (j + 1)) b = Bd.calls f t ((Bd.callsM f (ks.take j) (c.take j) b).key f ks[j]) by
          obtain ⟨q1, q2⟩ := List.getElem?_eq_some_iff.1 ht
          rw [List.take_succ_eq_append_getElem q1, q2, List.take_succ_eq_append_getElem hk', callsM_take f _ _ _ _ _ (by rw [List.length_take, List.length_take, HKC.out])])
        have hj0 : (0 : Int) ≤ (j : Int) := by omega
        have hjn : (j : Int) < (xbn : Int) := by omega
        clear hv ht hp' hIr hKr hE hes hks hs v0 v1 v2 v3 v4 v5 e eA
        go_wp2_with fail
        go_at_call 121
        refine HCD.out.mono ?_
        rintro e w2 ⟨rfl, o2, hM2, hT2⟩
        have HM2 := Lib.hid hM2
        have HT2 := Lib.hid (HTR.out.trans hT2)
        have HC2 := Lib.hid (HCR.out.to_ hT2 bld_0)
        clear hM2 hT2 x0 x1 x2 x3 x4 x5 x6
        go_wp2_with fail
        go_roundw
        case rel => exact ⟨j + 1, by omega, by go_num, o2, by rw [HSN.out]; exact HM2.out, HT2.out, HC2.out⟩
        case measure => simp [intOf]; omega
      · obtain rfl : j = xbn := by omega
        have hct : c.take j = c := List.take_of_length_le (by have h2 := HBN.out; omega)
        have hkt : ks.take j = ks := List.take_of_length_le (by have h2 := HBN.out; have h3 := HKC.out; omega)
        rw [hct, hkt] at HMR
        clear hct hkt
        have hee := endmap_spec M fl (Bd.callsM f ks c b) ks kvs vs' m wr o' HMR.out HEM.out
        rw [HF.out] at hee
        have HEE := Lib.hid hee
        clear hee
        go_wp2_with fail
        go_at_call 123
        refine HEE.out.mono ?_
        rintro e w2 ⟨rfl, o2, hM2, hT2⟩
        have HM2 := Lib.hid hM2
        have HT2 := Lib.hid (HTR.out.trans hT2)
        clear hM2 hT2
        go_wp2_with fail
        go_end0
        exact ⟨rfl, o2, by rw [HEQ.out]; exact HM2.out, HT2.out⟩
end Go.Proofs.YtfoifdoaleaekaaGreat
