/-
  Package list: Span, Len.
  Package list: references to elements; the reference's Span and Len.
  Package list: At.
-/
import Derived.Test.YtfoifdoaleaekaaGreatQf08
namespace Go.Proofs.YtfoifdoaleaekaaGreat
open Go.RowKit Go.Acc
theorem ls_zero {l : List UInt8} {p q t v : Int} (h : lsE l p q t v ≠ 0) : lsFrom l p q t v = 0 ∧ lsAt l p q t v = 0 ∧ lsTo l p q t v = 0 ∧ lsLen l p q t v = 0 := by
  unfold lsFrom lsAt lsTo lsLen
  rw [if_neg h, if_neg h, if_neg h, if_neg h]
  exact ⟨rfl, rfl, rfl, rfl⟩
theorem lsw_open {w w' : World} {A : Option Addr} {n c : Nat} {l : List UInt8} {p q t v : Int} {e : Ending} (h : LsW w A n c l p q t v e w') :
    ∃ S : Value, ∃ a0 a1 a2 a3 : Int, e = .returned (.tuple #[.agg #[S, .int .i64 a0, .int .i64 a1, .int .i64 a2, .int .i64 a3, .int .i64 (lsFrom l p q t v : Nat), .int .i64 (lsAt l p q t v : Nat), .int .i64 (lsTo l p q t v : Nat), .int .i64 (lsLen l p q t v : Nat)], .int .i64 (lsE l p q t v)]) ∧ S.oneCell' = true ∧
      (lsE l p q t v = 0 → S = .slice A n c ∧ a0 = p ∧ a1 = q ∧ a2 = t ∧ a3 = v) ∧ Below w.heap.size w w' := by
  obtain ⟨rfl, hb⟩ := h
  unfold lsVec
  by_cases he : lsE l p q t v = 0
  · rw [if_pos he]
    exact ⟨_, _, _, _, _, rfl, rfl, fun _ => ⟨rfl, rfl, rfl, rfl, rfl⟩, hb⟩
  · obtain ⟨e1, e2, e3, e4⟩ := ls_zero he
    rw [if_neg he, e1, e2, e3, e4]
    exact ⟨_, _, _, _, _, rfl, rfl, fun h => absurd h he, hb⟩
set_option maxRecDepth 100000 in
set_option maxHeartbeats 1000000 in
theorem lspan_spec (A : Option Addr) (n c : Nat) (p q t v : Int) (l : List UInt8) (w : World) (h : IsB w A n l) (hc : n ≤ c) (hn : n ≤ 1099511627776) :
    Calls Tryz.prog 88 #[.slice A n c, .agg #[.int .i64 p, .int .i64 q, .int .i64 t, .int .i64 v]] w fun e w' => e = .returned (.tuple #[.int .i64 (lsFrom l p q t v : Nat), .int .i64 (lsAt l p q t v : Nat), .int .i64 (lsTo l p q t v : Nat), .int .i64 (lsE l p q t v)]) ∧ Below w.heap.size w w' := by
  have HL := Lib.hid (h.alloc (.cells #[.int .i64 p, .int .i64 q, .int .i64 t, .int .i64 v] 36))
  have HB := Lib.hid ((Below.refl w.heap.size w).alloc (Nat.le_refl _) (.cells #[.int .i64 p, .int .i64 q, .int .i64 t, .int .i64 v] 36))
  obtain ⟨nf, hnf⟩ : ∃ x, lsFrom l p q t v = x := ⟨_, rfl⟩
  obtain ⟨na, hna⟩ : ∃ x, lsAt l p q t v = x := ⟨_, rfl⟩
  obtain ⟨nt, hnt⟩ : ∃ x, lsTo l p q t v = x := ⟨_, rfl⟩
  obtain ⟨nl, hnl⟩ : ∃ x, lsLen l p q t v = x := ⟨_, rfl⟩
  obtain ⟨ne, hne⟩ : ∃ x, lsE l p q t v = x := ⟨_, rfl⟩
  have HNF := Lib.hid hnf
  have HNA := Lib.hid hna
  have HNT := Lib.hid hnt
  have HNL := Lib.hid hnl
  have HNE := Lib.hid hne
  clear h hnf hna hnt hnl hne
  go_enter Tryz.func88, Tryz.ntmps88
  go_wp2_with fail
  go_at_call 55
  refine (lfind_spec A n c p q t v l _ HL.out hc hn).mono ?_
  intro e w1 hpost
  obtain ⟨S, a0, a1, a2, a3, rfl, hS, _, hb⟩ := lsw_open hpost
  rw [HNF.out, HNA.out, HNT.out, HNL.out, HNE.out]
  have hstS := fun (W : World) (p : Addr) => run_store Tryz.prog W p S .plain hS
  replace HB := Lib.hid ((pure_below HB.out hb).alloc (pure_below HB.out hb).size (.cells #[S, .int .i64 a0, .int .i64 a1, .int .i64 a2, .int .i64 a3, .int .i64 (nf : Nat), .int .i64 (na : Nat), .int .i64 (nt : Nat), .int .i64 (nl : Nat)] 92))
  clear hb hpost HL hS
  go_wp2_with fail
  go_quiet (fail)
  go_wp2
  refine bodyPost_ret (v := .tuple #[.int .i64 (nf : Nat), .int .i64 (na : Nat), .int .i64 (nt : Nat), .int .i64 ne]) (by simp [results, Tryz.results88, go_sem]) rfl ⟨?_, below_drewN HB.out _⟩
  rw [HNF.out, HNA.out, HNT.out, HNE.out]
set_option maxRecDepth 100000 in
set_option maxHeartbeats 1000000 in
theorem llen_spec (A : Option Addr) (n c : Nat) (p q t v : Int) (l : List UInt8) (w : World) (h : IsB w A n l) (hc : n ≤ c) (hn : n ≤ 1099511627776) :
    Calls Tryz.prog 54 #[.slice A n c, .agg #[.int .i64 p, .int .i64 q, .int .i64 t, .int .i64 v]] w fun e w' => e = .returned (.tuple #[.int .i64 (lsLen l p q t v : Nat), .int .i64 (lsE l p q t v)]) ∧ Below w.heap.size w w' := by
  have HL := Lib.hid (h.alloc (.cells #[.int .i64 p, .int .i64 q, .int .i64 t, .int .i64 v] 36))
  have HB := Lib.hid ((Below.refl w.heap.size w).alloc (Nat.le_refl _) (.cells #[.int .i64 p, .int .i64 q, .int .i64 t, .int .i64 v] 36))
  obtain ⟨nf, hnf⟩ : ∃ x, lsFrom l p q t v = x := ⟨_, rfl⟩
  obtain ⟨na, hna⟩ : ∃ x, lsAt l p q t v = x := ⟨_, rfl⟩
  obtain ⟨nt, hnt⟩ : ∃ x, lsTo l p q t v = x := ⟨_, rfl⟩
  obtain ⟨nl, hnl⟩ : ∃ x, lsLen l p q t v = x := ⟨_, rfl⟩
  obtain ⟨ne, hne⟩ : ∃ x, lsE l p q t v = x := ⟨_, rfl⟩
  have HNF := Lib.hid hnf
  have HNA := Lib.hid hna
  have HNT := Lib.hid hnt
  have HNL := Lib.hid hnl
  have HNE := Lib.hid hne
  clear h hnf hna hnt hnl hne
  go_enter Tryz.func54, Tryz.ntmps54
  go_wp2_with fail
  go_at_call 55
  refine (lfind_spec A n c p q t v l _ HL.out hc hn).mono ?_
  intro e w1 hpost
  obtain ⟨S, a0, a1, a2, a3, rfl, hS, _, hb⟩ := lsw_open hpost
  rw [HNF.out, HNA.out, HNT.out, HNL.out, HNE.out]
  have hstS := fun (W : World) (p : Addr) => run_store Tryz.prog W p S .plain hS
  replace HB := Lib.hid ((pure_below HB.out hb).alloc (pure_below HB.out hb).size (.cells #[S, .int .i64 a0, .int .i64 a1, .int .i64 a2, .int .i64 a3, .int .i64 (nf : Nat), .int .i64 (na : Nat), .int .i64 (nt : Nat), .int .i64 (nl : Nat)] 92))
  clear hb hpost HL hS
  go_wp2
  go_ret2
  rw [HNL.out, HNE.out]
  exact ⟨rfl, HB.out⟩
end Go.Proofs.YtfoifdoaleaekaaGreat

namespace Go.Proofs.YtfoifdoaleaekaaGreat
open Go.RowKit Go.Acc
set_option maxRecDepth 100000 in
set_option maxHeartbeats 1000000 in
theorem vplace_spec (A : Option Addr) (n c : Nat) (p q t : Int) (v f a o k i X : Nat) (w : World) (hX : i * v = X) (hb : a + X ≤ 1099511627776) :
    Calls Tryz.prog 139 #[.agg #[.slice A n c, .int .i64 p, .int .i64 q, .int .i64 t, .int .i64 v, .int .i64 f, .int .i64 a, .int .i64 o, .int .i64 k], .int .i64 i] w fun e w' => e = .returned (.agg #[.int .i64 ((a : Int) + X), .int .i64 v, .int .i64 0, .int .i64 v]) ∧ Below w.heap.size w w' := by
  have hmul : wrap64 ((i : Int) * (v : Int)) = (X : Int) := by
    rw [← Int.natCast_mul, hX]
    exact wrap64_in _ (by omega)
  have HB := Lib.hid (((Below.refl w.heap.size w).alloc (Nat.le_refl _) (.cells #[.slice A n c, .int .i64 p, .int .i64 q, .int .i64 t, .int .i64 v, .int .i64 f, .int .i64 a, .int .i64 o, .int .i64 k] 92)).alloc (by simp) (.cells #[.int .i64 0, .int .i64 0, .int .i64 0, .int .i64 0] 36))
  clear hX
  go_enter Tryz.func139, Tryz.ntmps139
  go_wp2
  refine bodyPost_ret (v := .agg #[.int .i64 ((a : Int) + X), .int .i64 v, .int .i64 0, .int .i64 v]) (by simp [results, Tryz.results139, go_sem]) rfl ⟨rfl, ?_⟩
  exact ((Below.refl _ _).alloc (Nat.le_refl _) _).alloc (by simp) _
set_option maxRecDepth 100000 in
set_option maxHeartbeats 1000000 in
theorem ltyped_spec (A : Option Addr) (n c : Nat) (p q t : Int) (v f a o k i X : Nat) (w : World) (hX : i * v = X) (hb : a + X ≤ 1099511627776) :
    Calls Tryz.prog 92 #[.agg #[.slice A n c, .int .i64 p, .int .i64 q, .int .i64 t, .int .i64 v, .int .i64 f, .int .i64 a, .int .i64 o, .int .i64 k], .int .i64 i] w fun e w' => e = .returned (.tuple #[.agg #[.int .i64 ((a : Int) + X), .int .i64 v, .int .i64 (elemT t), .int .i64 v], .int .i64 0]) ∧ Below w.heap.size w w' := by
  have HV := Lib.hid ((Blk.new w 92 #[.slice A n c, .int .i64 p, .int .i64 q, .int .i64 t, .int .i64 v, .int .i64 f, .int .i64 a, .int .i64 o, .int .i64 k]).alloc (.cells #[.int .i64 0, .int .i64 0, .int .i64 0, .int .i64 0] 36))
  have HR := Lib.hid (Blk.new_ (w := w.alloc (.cells #[.slice A n c, .int .i64 p, .int .i64 q, .int .i64 t, .int .i64 v, .int .i64 f, .int .i64 a, .int .i64 o, .int .i64 k] 92)) (g := w.heap.size + 1) (by simp) 36 #[.int .i64 0, .int .i64 0, .int .i64 0, .int .i64 0])
  have HB := Lib.hid (((Below.refl w.heap.size w).alloc (Nat.le_refl _) (.cells #[.slice A n c, .int .i64 p, .int .i64 q, .int .i64 t, .int .i64 v, .int .i64 f, .int .i64 a, .int .i64 o, .int .i64 k] 92)).alloc (by simp) (.cells #[.int .i64 0, .int .i64 0, .int .i64 0, .int .i64 0] 36))
  have HX := Lib.hid hX
  clear hX
  go_enter Tryz.func92, Tryz.ntmps92
  go_wp2_with fail
  go_at_call 139
  refine (vplace_spec A n c p q t v f a o k i X _ HX.out hb).mono ?_
  rintro e w1 ⟨rfl, hb1⟩
  replace HV := Lib.hid ((HV.out.pure hb1).alloc (.cells #[.int .i64 ((a : Int) + X), .int .i64 v, .int .i64 0, .int .i64 v] 36))
  replace HR := Lib.hid ((HR.out.pure hb1).alloc (.cells #[.int .i64 ((a : Int) + X), .int .i64 v, .int .i64 0, .int .i64 v] 36))
  have HN := Lib.hid (Blk.new w1 36 #[.int .i64 ((a : Int) + X), .int .i64 v, .int .i64 0, .int .i64 v])
  replace HB := Lib.hid ((pure_below HB.out hb1).alloc (pure_below HB.out hb1).size (.cells #[.int .i64 ((a : Int) + X), .int .i64 v, .int .i64 0, .int .i64 v] 36))
  have hz1 : w.heap.size + 1 < w1.heap.size := by have := HR.out.lt; have := hb1.size; (try simp at this); omega
  clear hb1
  have y0 : _ = some (Value.slice A n c) := HV.out.cell 0; have y1 : _ = some (Value.int .i64 p) := HV.out.cell 1; have y2 : _ = some (Value.int .i64 q) := HV.out.cell 2; have y3 : _ = some (Value.int .i64 t) := HV.out.cell 3; have y4 : _ = some (Value.int .i64 v) := HV.out.cell 4; have y6 : _ = some (Value.int .i64 a) := HV.out.cell 6; have y8 : _ = some (Value.int .i64 k) := HV.out.cell 8
  have n0 : _ = some (Value.int .i64 ((a : Int) + X)) := HN.out.cell 0; have n1 : _ = some (Value.int .i64 v) := HN.out.cell 1; have n2 : _ = some (Value.int .i64 0) := HN.out.cell 2; have n3 : _ = some (Value.int .i64 v) := HN.out.cell 3; have m2 := HN.out.frozen 2; have m3 := HN.out.frozen 3
  go_wp2_with fail
  go_at_call 90
  refine (elem_spec t _).mono ?_
  rintro e w2 ⟨rfl, hb2⟩
  replace HR := Lib.hid (HR.out.pure hb2)
  replace HN := Lib.hid (HN.out.pure hb2)
  replace HB := Lib.hid (pure_below HB.out hb2)
  clear y0 y1 y2 y3 y4 y6 y8 n0 n1 n2 n3 m2 m3 hb2
  have r0 : _ = some (Value.int .i64 0) := HR.out.cell 0; have r1 : _ = some (Value.int .i64 0) := HR.out.cell 1; have r2 : _ = some (Value.int .i64 0) := HR.out.cell 2; have r3 : _ = some (Value.int .i64 0) := HR.out.cell 3; have f0 := HR.out.frozen 0; have f1 := HR.out.frozen 1; have f2 := HR.out.frozen 2; have f3 := HR.out.frozen 3
  have n0 : _ = some (Value.int .i64 ((a : Int) + X)) := HN.out.cell 0; have n1 : _ = some (Value.int .i64 v) := HN.out.cell 1; have n2 : _ = some (Value.int .i64 0) := HN.out.cell 2; have n3 : _ = some (Value.int .i64 v) := HN.out.cell 3; have m2 := HN.out.frozen 2; have m3 := HN.out.frozen 3
  go_wp2
  refine bodyPost_ret (v := .tuple #[.agg #[.int .i64 ((a : Int) + X), .int .i64 v, .int .i64 (elemT t), .int .i64 v], .int .i64 0]) (by simp [results, Tryz.results92, go_sem, r0, r1, r2, r3]) rfl ⟨rfl, ?_⟩
  exact ((((HB.out.setCell (show w.heap.size ≤ w1.heap.size by omega) _).setCell (Nat.le_succ _) _).setCell (Nat.le_succ _) _).setCell (Nat.le_succ _) _).setCell (Nat.le_succ _) _
def tagR (a X : Nat) (v : Int) (c : UInt8) : Value := if unE c = 0 then .agg #[.int .i64 ((a : Int) + X), .int .i64 v, .int .i64 (unT c), .int .i64 (unW c)] else .agg #[.int .i64 0, .int .i64 0, .int .i64 0, .int .i64 0]
set_option maxRecDepth 100000 in
set_option maxHeartbeats 1000000 in
theorem tagged_spec (A : Option Addr) (n c : Nat) (p q t : Int) (v f a o k i X K : Nat) (l : List UInt8) (c0 : UInt8) (w : World) (h : IsB w A n l) (hn : n ≤ 1099511627776) (hX : i * v = X) (hK : k * v = K) (hik : i ≤ k) (hin : a + K + i < n) (hc : l[a + K + i]? = some c0) :
    Calls Tryz.prog 94 #[.agg #[.slice A n c, .int .i64 p, .int .i64 q, .int .i64 t, .int .i64 v, .int .i64 f, .int .i64 a, .int .i64 o, .int .i64 k], .int .i64 i] w fun e w' => e = .returned (.tuple #[tagR a X v c0, .int .i64 (unE c0)]) ∧ Below w.heap.size w w' := by
  have hXK : X ≤ K := by rw [← hX, ← hK]; exact Nat.mul_le_mul_right _ hik
  have hb : a + X ≤ 1099511627776 := by omega
  have hmul : wrap64 ((k : Int) * (v : Int)) = (K : Int) := by
    rw [← Int.natCast_mul, hK]
    exact wrap64_in _ (by omega)
  have HMUL := Lib.hid hmul
  have HL := Lib.hid ((h.alloc (.cells #[.slice A n c, .int .i64 p, .int .i64 q, .int .i64 t, .int .i64 v, .int .i64 f, .int .i64 a, .int .i64 o, .int .i64 k] 92)).alloc (.cells #[.int .i64 0, .int .i64 0, .int .i64 0, .int .i64 0] 36))
  have HC := Lib.hid hc
  clear hmul hK h hc
  have HV := Lib.hid ((Blk.new w 92 #[.slice A n c, .int .i64 p, .int .i64 q, .int .i64 t, .int .i64 v, .int .i64 f, .int .i64 a, .int .i64 o, .int .i64 k]).alloc (.cells #[.int .i64 0, .int .i64 0, .int .i64 0, .int .i64 0] 36))
  have HR := Lib.hid (Blk.new_ (w := w.alloc (.cells #[.slice A n c, .int .i64 p, .int .i64 q, .int .i64 t, .int .i64 v, .int .i64 f, .int .i64 a, .int .i64 o, .int .i64 k] 92)) (g := w.heap.size + 1) (by simp) 36 #[.int .i64 0, .int .i64 0, .int .i64 0, .int .i64 0])
  have HB := Lib.hid (((Below.refl w.heap.size w).alloc (Nat.le_refl _) (.cells #[.slice A n c, .int .i64 p, .int .i64 q, .int .i64 t, .int .i64 v, .int .i64 f, .int .i64 a, .int .i64 o, .int .i64 k] 92)).alloc (by simp) (.cells #[.int .i64 0, .int .i64 0, .int .i64 0, .int .i64 0] 36))
  have HX := Lib.hid hX
  clear hX
  go_enter Tryz.func94, Tryz.ntmps94
  go_wp2_with fail
  go_at_call 139
  refine (vplace_spec A n c p q t v f a o k i X _ HX.out hb).mono ?_
  rintro e w1 ⟨rfl, hb1⟩
  replace HV := Lib.hid ((HV.out.pure hb1).alloc (.cells #[.int .i64 ((a : Int) + X), .int .i64 v, .int .i64 0, .int .i64 v] 36))
  replace HR := Lib.hid ((HR.out.pure hb1).alloc (.cells #[.int .i64 ((a : Int) + X), .int .i64 v, .int .i64 0, .int .i64 v] 36))
  have HN := Lib.hid (Blk.new w1 36 #[.int .i64 ((a : Int) + X), .int .i64 v, .int .i64 0, .int .i64 v])
  replace HB := Lib.hid ((pure_below HB.out hb1).alloc (pure_below HB.out hb1).size (.cells #[.int .i64 ((a : Int) + X), .int .i64 v, .int .i64 0, .int .i64 v] 36))
  have hz1 : w.heap.size + 1 < w1.heap.size := by have := HR.out.lt; have := hb1.size; (try simp at this); omega
  replace HL := Lib.hid ((HL.out.pure hb1).alloc (.cells #[.int .i64 ((a : Int) + X), .int .i64 v, .int .i64 0, .int .i64 v] 36))
  clear hb1
  have y0 : _ = some (Value.slice A n c) := HV.out.cell 0; have y1 : _ = some (Value.int .i64 p) := HV.out.cell 1; have y2 : _ = some (Value.int .i64 q) := HV.out.cell 2; have y3 : _ = some (Value.int .i64 t) := HV.out.cell 3; have y4 : _ = some (Value.int .i64 v) := HV.out.cell 4; have y6 : _ = some (Value.int .i64 a) := HV.out.cell 6; have y8 : _ = some (Value.int .i64 k) := HV.out.cell 8
  have n0 : _ = some (Value.int .i64 ((a : Int) + X)) := HN.out.cell 0; have n1 : _ = some (Value.int .i64 v) := HN.out.cell 1; have n2 : _ = some (Value.int .i64 0) := HN.out.cell 2; have n3 : _ = some (Value.int .i64 v) := HN.out.cell 3; have m2 := HN.out.frozen 2; have m3 := HN.out.frozen 3
  obtain ⟨g, off, rfl, hkl, hcell⟩ := isb_at HL.out hin
  have hcc : l[a + K + i] = c0 := by
    have := HC.out
    rw [List.getElem?_eq_getElem hkl] at this
    injection this
  rw [hcc] at hcell
  have hlt4 : (a : Int) + K + i < n := by omega
  have hlt5 : a + K + i < n := hin
  clear hcc hkl
  have hmul := HMUL.out
  go_wp2_with fail
  clear hmul
  go_at_call 42
  refine (unpack_spec c0 _).mono ?_
  rintro e w2 ⟨rfl, hb2⟩
  replace HR := Lib.hid (HR.out.pure hb2)
  replace HN := Lib.hid (HN.out.pure hb2)
  replace HB := Lib.hid (pure_below HB.out hb2)
  clear y0 y1 y2 y3 y4 y6 y8 n0 n1 n2 n3 m2 m3 hb2 hcell
  have r0 : _ = some (Value.int .i64 0) := HR.out.cell 0; have r1 : _ = some (Value.int .i64 0) := HR.out.cell 1; have r2 : _ = some (Value.int .i64 0) := HR.out.cell 2; have r3 : _ = some (Value.int .i64 0) := HR.out.cell 3; have f0 := HR.out.frozen 0; have f1 := HR.out.frozen 1; have f2 := HR.out.frozen 2; have f3 := HR.out.frozen 3
  have n0 : _ = some (Value.int .i64 ((a : Int) + X)) := HN.out.cell 0; have n1 : _ = some (Value.int .i64 v) := HN.out.cell 1; have n2 : _ = some (Value.int .i64 0) := HN.out.cell 2; have n3 : _ = some (Value.int .i64 v) := HN.out.cell 3; have m2 := HN.out.frozen 2; have m3 := HN.out.frozen 3
  by_cases hu : unE c0 = 0
  · have HT := Lib.hid (show tagR a X v c0 = _ from if_pos hu)
    rw [hu]
    have HU := Lib.hid hu
    clear hu
    go_wp2
    refine bodyPost_ret (v := .tuple #[.agg #[.int .i64 ((a : Int) + X), .int .i64 v, .int .i64 (unT c0), .int .i64 (unW c0)], .int .i64 0]) (by simp [results, Tryz.results94, go_sem, r0, r1, r2, r3]) rfl ⟨?_, ?_⟩
    · rw [HT.out, HU.out]
    · exact (((((HB.out.setCell (show w.heap.size ≤ w1.heap.size by omega) _).setCell (show w.heap.size ≤ w1.heap.size by omega) _).setCell (Nat.le_succ _) _).setCell (Nat.le_succ _) _).setCell (Nat.le_succ _) _).setCell (Nat.le_succ _) _
  · have HT := Lib.hid (show tagR a X v c0 = _ from if_neg hu)
    have hne : (unE c0 != 0) = true := by simpa using hu
    clear hu
    go_wp2
    refine bodyPost_ret (v := .tuple #[.agg #[.int .i64 0, .int .i64 0, .int .i64 0, .int .i64 0], .int .i64 (unE c0)]) (by simp [results, Tryz.results94, go_sem, r0, r1, r2, r3]) rfl ⟨?_, ?_⟩
    · rw [HT.out]
    · exact (((HB.out.setCell (Nat.le_succ _) _).setCell (Nat.le_succ _) _).setCell (Nat.le_succ _) _).setCell (Nat.le_succ _) _
end Go.Proofs.YtfoifdoaleaekaaGreat

namespace Go.Proofs.YtfoifdoaleaekaaGreat
open Go.RowKit Go.Acc
def tagB (l : List UInt8) (p q t v : Int) (i : Int) : UInt8 := l.getD (lsAt l p q t v + lsLen l p q t v * v.toNat + i.toNat) 0
def atE (l : List UInt8) (p q t v i : Int) : Int :=
  if lsE l p q t v ≠ 0 then lsE l p q t v else if i < 0 ∨ (lsLen l p q t v : Int) ≤ i then 6 else if tagT t = true then unE (tagB l p q t v i) else 0
def atP (l : List UInt8) (p q t v i : Int) : Int := if atE l p q t v i = 0 then ((lsAt l p q t v : Int) + (i.toNat * v.toNat : Nat)) else 0
def atQ (l : List UInt8) (p q t v i : Int) : Int := if atE l p q t v i = 0 then v else 0
def atT (l : List UInt8) (p q t v i : Int) : Int := if atE l p q t v i = 0 then (if tagT t = true then unT (tagB l p q t v i) else elemT t) else 0
def atV (l : List UInt8) (p q t v i : Int) : Int := if atE l p q t v i = 0 then (if tagT t = true then unW (tagB l p q t v i) else v) else 0
def AtW (w : World) (l : List UInt8) (p q t v i : Int) (e : Ending) (w' : World) : Prop :=
  e = .returned (.tuple #[.agg #[.int .i64 (atP l p q t v i), .int .i64 (atQ l p q t v i), .int .i64 (atT l p q t v i), .int .i64 (atV l p q t v i)], .int .i64 (atE l p q t v i)]) ∧ Below w.heap.size w w'
theorem atw_no {w w' : World} {l : List UInt8} {p q t v i er : Int} (h : atE l p q t v i = er) (hne : er ≠ 0) (hb : Below w.heap.size w w') : AtW w l p q t v i (.returned (.tuple #[.agg #[.int .i64 0, .int .i64 0, .int .i64 0, .int .i64 0], .int .i64 er])) w' := by
  unfold AtW atP atQ atT atV
  rw [h, if_neg hne, if_neg hne, if_neg hne, if_neg hne]
  exact ⟨rfl, hb⟩
theorem atw_yes {w w' : World} {l : List UInt8} {p q t v i a b c d : Int} (h : atE l p q t v i = 0) (h1 : ((lsAt l p q t v : Int) + (i.toNat * v.toNat : Nat)) = a) (h2 : v = b) (h3 : (if tagT t = true then unT (tagB l p q t v i) else elemT t) = c) (h4 : (if tagT t = true then unW (tagB l p q t v i) else v) = d) (hb : Below w.heap.size w w') :
    AtW w l p q t v i (.returned (.tuple #[.agg #[.int .i64 a, .int .i64 b, .int .i64 c, .int .i64 d], .int .i64 0])) w' := by
  unfold AtW atP atQ atT atV
  rw [h, if_pos rfl, if_pos rfl, if_pos rfl, if_pos rfl, h1, h3, h4, ← h2]
  exact ⟨rfl, hb⟩
theorem ls_ok {l : List UInt8} {p q t v : Int} (h : lsE l p q t v = 0) : isL t = true ∧ isT t = true ∧ isW v = true ∧ (lsAt l p q t v) + lsLen l p q t v * (v.toNat + tgs t) ≤ l.length ∧ 0 ≤ p ∧ 0 ≤ q ∧ p + q ≤ l.length ∧ isW q = true ∧ (lsAt l p q t v : Int) % v = 0 := by
  rcases ls_cases l p q t v with ⟨h1, e⟩ | ⟨h1, ⟨_, e⟩ | ⟨h2, ⟨h3, e⟩ | ⟨h3, ⟨_, e⟩ | ⟨_, _, e⟩ | ⟨_, _, _, e⟩ | ⟨h4, _, h5, _⟩⟩⟩⟩
  · rw [e] at h; exact absurd h h1
  · rw [e] at h; cases h
  · rw [e] at h; exact absurd h h3
  · rw [e] at h; cases h
  · rw [e] at h; cases h
  · rw [e] at h; cases h
  · obtain ⟨g1, g2⟩ := mayE_ok.1 h1
    have g2 := inB_iff.1 g2
    have g1 := formed_iff.1 g1
    have hr := tgt_rl h3
    have ea : lsAt l p q t v = (tgt l p q t v).toNat := if_pos h
    have el : lsLen l p q t v = lsN l p q t v := if_pos h
    refine ⟨h2, legal_isT g1.1, g1.2.2, ?_, g2.1, g2.2.1, g2.2.2, g1.2.1, ?_⟩
    · rw [ea, el]; exact h5
    · rw [ea, Int.toNat_of_nonneg hr.1]; exact h4
theorem sh_get {t : Int} (hL : isL t = true) (ht : isT t = true) : ∃ a F tg, shR t.toNat = [a, F, (if tagT t = true then fnV 94 else fnV 92), tg] := by
  rcases shcases ht with ⟨h, _⟩ | ⟨_, _, _, hT, _, e⟩ | ⟨_, _, _, e⟩
  · rw [hL] at h; cases h
  · rw [hT]; exact ⟨_, _, _, e⟩
  · exact ⟨_, _, _, e⟩
theorem sh_field (a F G tg : Value) : ∀ W : World, (Instr.field 98 (.agg #[a, F, G, tg]) 2).run Tryz.prog W = .ok G W := by
  intro W
  kernel_rfl
end Go.Proofs.YtfoifdoaleaekaaGreat
