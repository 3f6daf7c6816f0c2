/-
  Package find: contracts for the examples of the chapter.
-/
import Derived.Test.YtfoifdoaleaekaaGreatQf37
namespace Go.Proofs.YtfoifdoaleaekaaGreat
open Go.RowKit Go.Acc
theorem fkeys_is (A : Option Addr) (n c : Nat) (p q t v a b d g er : Int) (l : List UInt8) (w : World) (h : IsB w A n l) (hc : n ≤ c) (hn : n ≤ 1099511627776) (h1 : kyP l p q t v = a) (h2 : kyQ l p q t v = b) (h3 : kyT l p q t v = d) (h4 : kyV l p q t v = g) (h5 : kyE l p q t v = er) :
    Calls Tryz.prog 60 #[.slice A n c, .agg #[.int .i64 p, .int .i64 q, .int .i64 t, .int .i64 v]] w fun e w' => e = .returned (.tuple #[.agg #[.int .i64 a, .int .i64 b, .int .i64 d, .int .i64 g], .int .i64 er]) ∧ Below w.heap.size w w' := by
  subst h1 h2 h3 h4 h5
  exact fkeys_spec A n c p q t v l w h hc hn
theorem fkeyat_is (A : Option Addr) (n c : Nat) (p q t v i er : Int) (s : List UInt8) (l : List UInt8) (w : World) (h : IsB w A n l) (hc : n ≤ c) (hn : n ≤ 1099511627776) (h1 : kaS l p q t v i = s) (h2 : kaE l p q t v i = er) :
    Calls Tryz.prog 71 #[.slice A n c, .agg #[.int .i64 p, .int .i64 q, .int .i64 t, .int .i64 v], .int .i64 i] w fun e w' => e = .returned (.tuple #[.string ⟨s.toArray⟩, .int .i64 er]) ∧ Below w.heap.size w w' := by
  subst h1 h2
  exact fkeyat_spec A n c p q t v i l w h hc hn
theorem ffind_is (A : Option Addr) (n c : Nat) (p q t v a b d g er : Int) (is : Bool) (l k : List UInt8) (w : World) (h : IsB w A n l) (hc : n ≤ c) (hn : n ≤ 1099511627776) (h1 : fdP l k p q t v = a) (h2 : fdQ l k p q t v = b) (h3 : fdT l k p q t v = d) (h4 : fdV l k p q t v = g) (h5 : fdB l k p q t v = is) (h6 : fdE l k p q t v = er) :
    Calls Tryz.prog 28 #[.slice A n c, .agg #[.int .i64 p, .int .i64 q, .int .i64 t, .int .i64 v], .string ⟨k.toArray⟩] w fun e w' => e = .returned (.tuple #[.agg #[.int .i64 a, .int .i64 b, .int .i64 d, .int .i64 g], .bool is, .int .i64 er]) ∧ Below w.heap.size w w' := by
  subst h1 h2 h3 h4 h5 h6
  exact ffind_spec A n c p q t v l k w h hc hn
set_option maxHeartbeats 400000 in
theorem of25_spec (p q t v : Int) (w : World) : Calls Tryz.prog 59 #[.int .i64 p, .int .i64 q, .int .i64 t, .int .i64 v] w fun e w' => e = .returned (.agg #[.int .i64 p, .int .i64 q, .int .i64 t, .int .i64 v]) ∧ Below w.heap.size w w' := by
  go_enter Tryz.func59, Tryz.ntmps59
  go_wp2
  refine bodyPost_ret (v := .agg #[.int .i64 p, .int .i64 q, .int .i64 t, .int .i64 v]) (by simp [results, Tryz.results59, go_sem]) rfl ⟨rfl, ?_⟩
  exact (Below.refl _ _).alloc (Nat.le_refl _) _
def ex25 (i : Nat) (c : UInt8) : List UInt8 := ([97, 0, 98, 0, 2, 5, 4, 2, 1, 2, 0, 1, 0, 4, 4, 36, 1] : List UInt8).set i c
theorem bc_set (l : List UInt8) (i : Nat) (c : UInt8) : (l.set i c).flatMap bc = (l.flatMap bc).set i (.int .u8 (c.toNat : Int)) := by
  have h : ∀ m : List UInt8, m.flatMap bc = m.map fun x => Value.int .u8 (x.toNat : Int) := by
    intro m
    induction m with
    | nil => rfl
    | cons x m ih => rw [List.flatMap_cons, ih]; rfl
  rw [h, h, List.map_set]
set_option maxHeartbeats 400000 in
theorem example_spec (i : Nat) (c : UInt8) (w : World) (hi : i < 17) : Calls Tryz.prog 58 #[.int .i64 i, .int .u8 (c.toNat : Int)] w fun e w' => e = .returned (.slice (some ⟨w.heap.size, 0, none⟩) 17 17) ∧ IsB w' (some ⟨w.heap.size, 0, none⟩) 17 (ex25 i c) ∧ Below w.heap.size w w' := by
  have hO := ownb_lit w ([.int .u8 97, .int .u8 0, .int .u8 98, .int .u8 0, .int .u8 2, .int .u8 5, .int .u8 4, .int .u8 2, .int .u8 1, .int .u8 2, .int .u8 0, .int .u8 1, .int .u8 0, .int .u8 4, .int .u8 4, .int .u8 36, .int .u8 1].set i (Value.int .u8 (c.toNat : Int))).toArray 17 w.heap.size (ex25 i c) (Nat.le_refl _) (by unfold ex25; rw [List.length_set]; rfl) (by omega) (by unfold ex25; rw [bc_set]; rfl)
  have HO := Lib.hid hO.is
  have hi0 : (0 : Int) ≤ i := by omega
  have hi17 : (i : Int) < 17 := by omega
  clear hO
  go_enter Tryz.func58, Tryz.ntmps58
  go_wp2
  go_ret
  exact ⟨rfl, HO.out, (Below.refl _ _).alloc (Nat.le_refl _) _⟩
set_option maxHeartbeats 400000 in
theorem tells_yes (A : Option Addr) (n c : Nat) (p q t v i er : Int) (s : List UInt8) (l : List UInt8) (w : World) (h : IsB w A n l) (hc : n ≤ c) (hn : n ≤ 1099511627776) (h1 : kaS l p q t v i = s) (h2 : kaE l p q t v i = er) :
    Calls Tryz.prog 30 #[.slice A n c, .agg #[.int .i64 p, .int .i64 q, .int .i64 t, .int .i64 v], .int .i64 i, .string ⟨s.toArray⟩, .int .i64 er] w fun e w' => e = .returned (.bool true) ∧ Below w.heap.size w w' := by
  have HL := Lib.hid (h.alloc (.cells #[.int .i64 p, .int .i64 q, .int .i64 t, .int .i64 v] 36))
  have HB := Lib.hid ((Below.refl w.heap.size w).alloc (Nat.le_refl _) (.cells #[.int .i64 p, .int .i64 q, .int .i64 t, .int .i64 v] 36))
  have H1 := Lib.hid h1
  have H2 := Lib.hid h2
  clear h h1 h2
  go_enter Tryz.func30, Tryz.ntmps30
  go_wp2_with fail
  go_at_call 71
  refine (fkeyat_is A n c p q t v i er s l _ HL.out hc hn H1.out H2.out).mono ?_
  rintro e w1 ⟨rfl, hb⟩
  replace HB := Lib.hid (pure_below HB.out hb)
  clear hb
  go_wp2
  go_ret
  exact ⟨rfl, HB.out⟩
set_option maxHeartbeats 400000 in
theorem finds_yes (A : Option Addr) (n c : Nat) (p q t v a b d g er : Int) (is : Bool) (l k : List UInt8) (w : World) (h : IsB w A n l) (hc : n ≤ c) (hn : n ≤ 1099511627776) (h1 : fdP l k p q t v = a) (h2 : fdQ l k p q t v = b) (h3 : fdT l k p q t v = d) (h4 : fdV l k p q t v = g) (h5 : fdB l k p q t v = is) (h6 : fdE l k p q t v = er) :
    Calls Tryz.prog 31 #[.slice A n c, .agg #[.int .i64 p, .int .i64 q, .int .i64 t, .int .i64 v], .string ⟨k.toArray⟩, .agg #[.int .i64 a, .int .i64 b, .int .i64 d, .int .i64 g], .bool is, .int .i64 er] w fun e w' => e = .returned (.bool true) ∧ Below w.heap.size w w' := by
  have HL := Lib.hid ((h.alloc (.cells #[.int .i64 p, .int .i64 q, .int .i64 t, .int .i64 v] 36)).alloc (.cells #[.int .i64 a, .int .i64 b, .int .i64 d, .int .i64 g] 36))
  have HB := Lib.hid (((Below.refl w.heap.size w).alloc (Nat.le_refl _) (.cells #[.int .i64 p, .int .i64 q, .int .i64 t, .int .i64 v] 36)).alloc (by simp) (.cells #[.int .i64 a, .int .i64 b, .int .i64 d, .int .i64 g] 36))
  have HK := Lib.hid (Blk.new_ (w := w.alloc (.cells #[.int .i64 p, .int .i64 q, .int .i64 t, .int .i64 v] 36)) (g := w.heap.size + 1) (by simp) 36 #[.int .i64 a, .int .i64 b, .int .i64 d, .int .i64 g])
  have H1 := Lib.hid h1
  have H2 := Lib.hid h2
  have H3 := Lib.hid h3
  have H4 := Lib.hid h4
  have H5 := Lib.hid h5
  have H6 := Lib.hid h6
  clear h h1 h2 h3 h4 h5 h6
  go_enter Tryz.func31, Tryz.ntmps31
  go_wp2_with fail
  go_at_call 28
  refine (ffind_is A n c p q t v a b d g er is l k _ HL.out hc hn H1.out H2.out H3.out H4.out H5.out H6.out).mono ?_
  rintro e w1 ⟨rfl, hb⟩
  replace HB := Lib.hid (pure_below HB.out hb)
  have c0 := cell0 (HK.out.pure hb)
  have c1 := cell1 (HK.out.pure hb)
  have c2 := cell2 (HK.out.pure hb)
  have c3 := cell3 (HK.out.pure hb)
  have hlt := (HK.out.pure hb).lt
  clear hb
  go_wp2
  go_ret
  exact ⟨rfl, HB.out.alloc HB.out.size _⟩
end Go.Proofs.YtfoifdoaleaekaaGreat

/-
  Package find: the examples of the chapter.
-/
namespace Go.Proofs.YtfoifdoaleaekaaGreat
open Go.RowKit Go.Acc
def d25 : List UInt8 := ex25 0 97
theorem w25_1 : kyP d25 14 1 9 1 = 7 ∧ kyQ d25 14 1 9 1 = 1 ∧ kyT d25 14 1 9 1 = 14 ∧ kyV d25 14 1 9 1 = 1 ∧ kyE d25 14 1 9 1 = 0 := by decide
theorem w25_2 : kyP (ex25 8 3) 14 1 9 1 = 0 ∧ kyQ (ex25 8 3) 14 1 9 1 = 0 ∧ kyT (ex25 8 3) 14 1 9 1 = 0 ∧ kyV (ex25 8 3) 14 1 9 1 = 0 ∧ kyE (ex25 8 3) 14 1 9 1 = 212 := by decide
theorem w25_3 : kyP [5, 4, 1] 0 1 1 1 = 0 ∧ kyQ [5, 4, 1] 0 1 1 1 = 0 ∧ kyT [5, 4, 1] 0 1 1 1 = 0 ∧ kyV [5, 4, 1] 0 1 1 1 = 0 ∧ kyE [5, 4, 1] 0 1 1 1 = 60 := by decide
theorem w25_4 : kaS d25 14 1 9 1 0 = [97] ∧ kaE d25 14 1 9 1 0 = 0 := by decide
theorem w25_5 : kaS d25 14 1 9 1 2 = [] ∧ kaE d25 14 1 9 1 2 = 6 := by decide
theorem w25_6 : fdP d25 [98] 14 1 9 1 = 11 ∧ fdQ d25 [98] 14 1 9 1 = 1 ∧ fdT d25 [98] 14 1 9 1 = 1 ∧ fdV d25 [98] 14 1 9 1 = 1 ∧ fdB d25 [98] 14 1 9 1 = true ∧ fdE d25 [98] 14 1 9 1 = 0 := by decide
theorem w25_7 : fdP d25 [99] 14 1 9 1 = 0 ∧ fdQ d25 [99] 14 1 9 1 = 0 ∧ fdT d25 [99] 14 1 9 1 = 0 ∧ fdV d25 [99] 14 1 9 1 = 0 ∧ fdB d25 [99] 14 1 9 1 = false ∧ fdE d25 [99] 14 1 9 1 = 0 := by decide
theorem w25_8 : fdP d25 [] 14 1 9 1 = 0 ∧ fdQ d25 [] 14 1 9 1 = 0 ∧ fdT d25 [] 14 1 9 1 = 0 ∧ fdV d25 [] 14 1 9 1 = 0 ∧ fdB d25 [] 14 1 9 1 = false ∧ fdE d25 [] 14 1 9 1 = 0 := by decide
theorem w25_9 : kaS (ex25 4 1) 14 1 9 1 0 = [] ∧ kaE (ex25 4 1) 14 1 9 1 0 = 214 := by decide
theorem w25_10 : kaS (ex25 5 6) 14 1 9 1 0 = [] ∧ kaE (ex25 5 6) 14 1 9 1 0 = 211 := by decide
theorem lsetA {w : World} {g i g' j : Nat} {u v : Value} (h : w.cell? ⟨g, i, none⟩ = some v) (hne : g ≠ g') : (w.setCell ⟨g', j, none⟩ u).cell? ⟨g, i, none⟩ = some v := lset h hne
theorem example_at (j b : Int) (i : Nat) (c : UInt8) (w : World) (hi : i < 17) (hj : j = (i : Int)) (hb : b = (c.toNat : Int)) : Calls Tryz.prog 58 #[.int .i64 j, .int .u8 b] w fun e w' => e = .returned (.slice (some ⟨w.heap.size, 0, none⟩) 17 17) ∧ IsB w' (some ⟨w.heap.size, 0, none⟩) 17 (ex25 i c) ∧ Below w.heap.size w w' := by
  subst hj hb
  exact example_spec i c w hi
set_option maxRecDepth 100000 in
set_option maxHeartbeats 2000000 in
theorem fiworks_spec (w : World) : Calls Tryz.prog 25 #[] w fun e w' => e = .returned (.bool true) ∧ Below w.heap.size w w' := by
  go_enter Tryz.func25, Tryz.ntmps25
  go_wp2_with fail
  go_at_call 58
  refine (example_at 0 97 0 97 _ (by decide) (by decide) (by decide)).mono ?_
  rintro e w1 ⟨rfl, hx, hb⟩
  have HX := Lib.hid (show IsB w1 _ 17 d25 from hx)
  have HB := Lib.hid hb
  clear hx hb
  go_wp2_with fail
  go_at_call 59
  refine (of25_spec 14 1 9 1 _).mono ?_
  rintro e w2 ⟨rfl, hb⟩
  replace HX := Lib.hid (HX.out.pure hb)
  replace HB := Lib.hid (pure_below HB.out hb)
  clear hb
  have HV := Lib.hid ((Blk.new w2 36 #[.int .i64 14, .int .i64 1, .int .i64 9, .int .i64 1]).alloc (.cells #[.int .i64 0, .int .i64 0, .int .i64 0, .int .i64 0] 36))
  have HN := Lib.hid (Blk.new_ (w := w2.alloc (.cells #[.int .i64 14, .int .i64 1, .int .i64 9, .int .i64 1] 36)) (g := w2.heap.size + 1) (by simp) 36 #[.int .i64 0, .int .i64 0, .int .i64 0, .int .i64 0])
  replace HX := Lib.hid ((HX.out.alloc (.cells #[.int .i64 14, .int .i64 1, .int .i64 9, .int .i64 1] 36)).alloc (.cells #[.int .i64 0, .int .i64 0, .int .i64 0, .int .i64 0] 36))
  replace HB := Lib.hid ((HB.out.alloc HB.out.size (.cells #[.int .i64 14, .int .i64 1, .int .i64 9, .int .i64 1] 36)).alloc (HB.out.alloc HB.out.size (.cells #[.int .i64 14, .int .i64 1, .int .i64 9, .int .i64 1] 36)).size (.cells #[.int .i64 0, .int .i64 0, .int .i64 0, .int .i64 0] 36))
  go_upto_region 2 with fail
  generalize (w2.alloc (.cells #[.int .i64 14, .int .i64 1, .int .i64 9, .int .i64 1] 36)).alloc (.cells #[.int .i64 0, .int .i64 0, .int .i64 0, .int .i64 0] 36) = w3 at HV HN HX HB ⊢
  generalize w2.heap.size + 1 = gN at HN ⊢
  generalize w2.heap.size = gV at HV ⊢
  have v0 := cell0 HV.out; have v1 := cell1 HV.out; have v2 := cell2 HV.out; have v3 := cell3 HV.out; have n0 := cell0 HN.out; have n1 := cell1 HN.out; have n2 := cell2 HN.out; have n3 := cell3 HN.out
  go_wp2_with fail
  go_at_call 60
  refine (fkeys_is _ 17 17 14 1 9 1 7 1 14 1 0 _ _ HX.out (by decide) (by decide) w25_1.1 w25_1.2.1 w25_1.2.2.1 w25_1.2.2.2.1 w25_1.2.2.2.2).mono ?_
  rintro e w4 ⟨rfl, hb⟩
  clear v0 v1 v2 v3 n0 n1 n2 n3
  replace HB := Lib.hid (pure_below HB.out hb); replace HX := Lib.hid (HX.out.pure hb); replace HV := Lib.hid (HV.out.pure hb); replace HN := Lib.hid (HN.out.pure hb)
  clear hb
  have HK := Lib.hid (Blk.new w4 36 #[.int .i64 7, .int .i64 1, .int .i64 14, .int .i64 1])
  replace HB := Lib.hid (HB.out.alloc HB.out.size (.cells #[.int .i64 7, .int .i64 1, .int .i64 14, .int .i64 1] 36)); replace HX := Lib.hid (HX.out.alloc (.cells #[.int .i64 7, .int .i64 1, .int .i64 14, .int .i64 1] 36)); replace HV := Lib.hid (HV.out.alloc (.cells #[.int .i64 7, .int .i64 1, .int .i64 14, .int .i64 1] 36)); replace HN := Lib.hid (HN.out.alloc (.cells #[.int .i64 7, .int .i64 1, .int .i64 14, .int .i64 1] 36))
  go_upto_region 3 with fail
  generalize w4.alloc (.cells #[.int .i64 7, .int .i64 1, .int .i64 14, .int .i64 1] 36) = w5 at HV HN HX HB HK ⊢
  go_cut [6, 7] (fun u6 u7 wx => ∃ wy, wy = wx ∧ u7 = .int .i64 212 ∧ ∃ g, u6 = .pointer (some ⟨g, 0, none⟩) ∧ Blk wx g 36 #[.int .i64 0, .int .i64 0, .int .i64 0, .int .i64 0] ∧ Below w5.heap.size w5 wx)
  case first =>
    have HC := Lib.hid (Below.refl w5.heap.size w5)
    have HV5 := HV
    have v0 := cell0 HV.out
    have v1 := cell1 HV.out
    have v2 := cell2 HV.out
    have v3 := cell3 HV.out
    have hne1 : gV ≠ w5.heap.size := by have := HV.out.lt; omega
    clear HX HN HK HB
    go_region_held3 (fun w' => w'.cell? ⟨gV, 0, none⟩ = some (.int .i64 14) ∧ w'.cell? ⟨gV, 1, none⟩ = some (.int .i64 1) ∧ w'.cell? ⟨gV, 2, none⟩ = some (.int .i64 9) ∧ w'.cell? ⟨gV, 3, none⟩ = some (.int .i64 1)) ((with_reducible refine ⟨?_, ?_, ?_, ?_⟩) <;> (repeat (first | with_reducible assumption | with_reducible refine ldrew ?_ | with_reducible refine lalloc _ ?_ | with_reducible refine lsetA ?_ ?_)))
      (first
        | (go_at_call 58; (with_reducible refine (example_at 8 3 8 3 _ (by decide) (by decide) (by decide)).mono ?_); rintro e w6 ⟨rfl, hx, hb⟩; (try simp at hx); have HY := Lib.hid hx; have hsz := hb.size; have hne2 : gV ≠ w6.heap.size := (by have h1 := HV5.out.lt; have h2 : w5.heap.size ≤ w6.heap.size := (by have h3 := hsz; (try simp at h3); omega); omega); (first | with_reducible have HQ := Lib.hid ((Blk.new w5 36 #[.int .i64 0, .int .i64 0, .int .i64 0, .int .i64 0]).drew.pure hb) | skip); (first | with_reducible replace HV := Lib.hid (HV.out.drew.pure hb) | with_reducible replace HV := Lib.hid ((HV.out.alloc _).drew.pure hb) | with_reducible replace HV := Lib.hid (HV.out.pure hb) | with_reducible replace HV := Lib.hid ((HV.out.alloc _).pure hb)); (first | with_reducible replace HC := Lib.hid (pure_below HC.out.drew hb) | with_reducible replace HC := Lib.hid (pure_below (HC.out.alloc HC.out.size _).drew hb) | with_reducible replace HC := Lib.hid (pure_below HC.out hb) | with_reducible replace HC := Lib.hid (pure_below (HC.out.alloc HC.out.size _) hb)); clear v0 v1 v2 v3 hb; have v0 := cell0 HV.out; have v1 := cell1 HV.out; have v2 := cell2 HV.out; have v3 := cell3 HV.out; clear hx; (first | (have q0 := cell0 HQ.out; have q1 := cell1 HQ.out; have q2 := cell2 HQ.out; have q3 := cell3 HQ.out; have p0 := HQ.out.frozen 0; have p1 := HQ.out.frozen 1; have p2 := HQ.out.frozen 2; have p3 := HQ.out.frozen 3) | skip))
        | (go_at_call 60; (first | (with_reducible refine (fkeys_is _ 17 17 14 1 9 1 0 0 0 0 212 _ _ HY.out (by decide) (by decide) w25_2.1 w25_2.2.1 w25_2.2.2.1 w25_2.2.2.2.1 w25_2.2.2.2.2).mono ?_) | (with_reducible refine (fkeys_is _ 17 17 14 1 9 1 0 0 0 0 212 _ _ (HY.out.alloc _) (by decide) (by decide) w25_2.1 w25_2.2.1 w25_2.2.2.1 w25_2.2.2.2.1 w25_2.2.2.2.2).mono ?_)); rintro e w7 ⟨rfl, hb⟩; (first | with_reducible have HQ := Lib.hid ((Blk.new w6 36 #[.int .i64 0, .int .i64 0, .int .i64 0, .int .i64 0]).pure hb) | with_reducible replace HQ := Lib.hid (HQ.out.pure hb) | skip); (first | with_reducible replace HV := Lib.hid (HV.out.drew.pure hb) | with_reducible replace HV := Lib.hid ((HV.out.alloc _).drew.pure hb) | with_reducible replace HV := Lib.hid (HV.out.pure hb) | with_reducible replace HV := Lib.hid ((HV.out.alloc _).pure hb)); (first | with_reducible replace HC := Lib.hid (pure_below HC.out.drew hb) | with_reducible replace HC := Lib.hid (pure_below (HC.out.alloc HC.out.size _).drew hb) | with_reducible replace HC := Lib.hid (pure_below HC.out hb) | with_reducible replace HC := Lib.hid (pure_below (HC.out.alloc HC.out.size _) hb)); clear v0 v1 v2 v3 hb; have v0 := cell0 HV.out; have v1 := cell1 HV.out; have v2 := cell2 HV.out; have v3 := cell3 HV.out; clear HY; (try clear q0 q1 q2 q3 p0 p1 p2 p3); (first | (have q0 := cell0 HQ.out; have q1 := cell1 HQ.out; have q2 := cell2 HQ.out; have q3 := cell3 HQ.out; have p0 := HQ.out.frozen 0; have p1 := HQ.out.frozen 1; have p2 := HQ.out.frozen 2; have p3 := HQ.out.frozen 3) | skip)))
    all_goals
      go_wp2_with fail
      go_meet
      first
        | with_reducible exact ⟨_, rfl, rfl, _, rfl, Blk.new _ _ _, HC.out.alloc HC.out.size _⟩
        | exact ⟨_, rfl, rfl, _, rfl, (((HQ.out.set_ 0 _).set_ 1 _).set_ 2 _).set_ 3 _, below_set4 _ HC.out (by first | exact Nat.le_refl _ | exact hsz) _ _ _ _⟩
  case rest =>
  obtain ⟨w8, rfl, rfl, g6, rfl, hK2, hb⟩ := hcut
  replace HB := Lib.hid (pure_below HB.out hb); replace HX := Lib.hid (HX.out.pure hb); replace HV := Lib.hid (HV.out.pure hb); replace HN := Lib.hid (HN.out.pure hb)
  replace HK := Lib.hid (HK.out.pure hb)
  have HK2 := Lib.hid hK2
  clear hb hK2
  go_upto_region 4 with fail
  have HY := Lib.hid (isb_vs w8 #[.int .u8 5, .int .u8 4, .int .u8 1] 3 (by rfl) (by rfl))
  replace HB := Lib.hid (HB.out.alloc HB.out.size (.cells #[.int .u8 5, .int .u8 4, .int .u8 1] 5))
  replace HX := Lib.hid (HX.out.alloc (.cells #[.int .u8 5, .int .u8 4, .int .u8 1] 5))
  replace HV := Lib.hid (HV.out.alloc (.cells #[.int .u8 5, .int .u8 4, .int .u8 1] 5))
  replace HN := Lib.hid (HN.out.alloc (.cells #[.int .u8 5, .int .u8 4, .int .u8 1] 5))
  replace HK := Lib.hid (HK.out.alloc (.cells #[.int .u8 5, .int .u8 4, .int .u8 1] 5))
  replace HK2 := Lib.hid (HK2.out.alloc (.cells #[.int .u8 5, .int .u8 4, .int .u8 1] 5))
  go_wp2_with fail
  go_at_call 59
  refine (of25_spec 0 1 1 1 _).mono ?_
  rintro e w9 ⟨rfl, hb⟩
  replace HB := Lib.hid (pure_below HB.out hb); replace HX := Lib.hid (HX.out.pure hb); replace HV := Lib.hid (HV.out.pure hb); replace HN := Lib.hid (HN.out.pure hb)
  replace HK := Lib.hid (HK.out.pure hb)
  replace HK2 := Lib.hid (HK2.out.pure hb)
  replace HY := Lib.hid (HY.out.pure hb)
  clear hb
  go_wp2_with fail
  go_at_call 60
  refine (fkeys_is _ 3 3 0 1 1 1 0 0 0 0 60 _ _ HY.out (by decide) (by decide) w25_3.1 w25_3.2.1 w25_3.2.2.1 w25_3.2.2.2.1 w25_3.2.2.2.2).mono ?_
  rintro e w10 ⟨rfl, hb⟩
  replace HB := Lib.hid (pure_below HB.out hb); replace HX := Lib.hid (HX.out.pure hb); replace HV := Lib.hid (HV.out.pure hb); replace HN := Lib.hid (HN.out.pure hb)
  replace HK := Lib.hid (HK.out.pure hb)
  replace HK2 := Lib.hid (HK2.out.pure hb)
  clear hb HY
  have HK3 := Lib.hid (Blk.new w10 36 #[.int .i64 0, .int .i64 0, .int .i64 0, .int .i64 0])
  replace HB := Lib.hid (HB.out.alloc HB.out.size (.cells #[.int .i64 0, .int .i64 0, .int .i64 0, .int .i64 0] 36)); replace HX := Lib.hid (HX.out.alloc (.cells #[.int .i64 0, .int .i64 0, .int .i64 0, .int .i64 0] 36)); replace HV := Lib.hid (HV.out.alloc (.cells #[.int .i64 0, .int .i64 0, .int .i64 0, .int .i64 0] 36)); replace HN := Lib.hid (HN.out.alloc (.cells #[.int .i64 0, .int .i64 0, .int .i64 0, .int .i64 0] 36))
  replace HK := Lib.hid (HK.out.alloc (.cells #[.int .i64 0, .int .i64 0, .int .i64 0, .int .i64 0] 36))
  replace HK2 := Lib.hid (HK2.out.alloc (.cells #[.int .i64 0, .int .i64 0, .int .i64 0, .int .i64 0] 36))
  go_upto_region 5 with fail
  generalize w10.alloc (.cells #[.int .i64 0, .int .i64 0, .int .i64 0, .int .i64 0] 36) = w11 at HV HN HX HB HK HK2 HK3 ⊢
  have a0 := cell0 HK.out; have a1 := cell1 HK.out; have a2 := cell2 HK.out; have a3 := cell3 HK.out; have b0 := cell0 HK2.out; have b1 := cell1 HK2.out; have b2 := cell2 HK2.out; have b3 := cell3 HK2.out; have c0 := cell0 HK3.out; have c1 := cell1 HK3.out; have c2 := cell2 HK3.out; have c3 := cell3 HK3.out; have n0 := cell0 HN.out; have n1 := cell1 HN.out; have n2 := cell2 HN.out; have n3 := cell3 HN.out
  go_region_held3 (fun w' => (w'.cell? ⟨w4.heap.size, 0, none⟩ = some (.int .i64 7) ∧ w'.cell? ⟨w4.heap.size, 1, none⟩ = some (.int .i64 1) ∧ w'.cell? ⟨w4.heap.size, 2, none⟩ = some (.int .i64 14) ∧ w'.cell? ⟨w4.heap.size, 3, none⟩ = some (.int .i64 1)) ∧ (w'.cell? ⟨gN, 0, none⟩ = some (.int .i64 0) ∧ w'.cell? ⟨gN, 1, none⟩ = some (.int .i64 0) ∧ w'.cell? ⟨gN, 2, none⟩ = some (.int .i64 0) ∧ w'.cell? ⟨gN, 3, none⟩ = some (.int .i64 0)) ∧ (w'.cell? ⟨g6, 0, none⟩ = some (.int .i64 0) ∧ w'.cell? ⟨g6, 1, none⟩ = some (.int .i64 0) ∧ w'.cell? ⟨g6, 2, none⟩ = some (.int .i64 0) ∧ w'.cell? ⟨g6, 3, none⟩ = some (.int .i64 0)) ∧ (w'.cell? ⟨w10.heap.size, 0, none⟩ = some (.int .i64 0) ∧ w'.cell? ⟨w10.heap.size, 1, none⟩ = some (.int .i64 0) ∧ w'.cell? ⟨w10.heap.size, 2, none⟩ = some (.int .i64 0) ∧ w'.cell? ⟨w10.heap.size, 3, none⟩ = some (.int .i64 0)))
    (first | with_reducible exact ⟨⟨a0, a1, a2, a3⟩, ⟨n0, n1, n2, n3⟩, ⟨b0, b1, b2, b3⟩, c0, c1, c2, c3⟩ | with_reducible exact ⟨⟨ldrew a0, ldrew a1, ldrew a2, ldrew a3⟩, ⟨ldrew n0, ldrew n1, ldrew n2, ldrew n3⟩, ⟨ldrew b0, ldrew b1, ldrew b2, ldrew b3⟩, ldrew c0, ldrew c1, ldrew c2, ldrew c3⟩)
    (first
      | (go_at_call 59; (with_reducible refine (of25_spec 7 1 14 1 _).mono ?_); rintro e w12 ⟨rfl, hb⟩; have hb := pure_trans (below_drew w11) hb; clear a0 a1 a2 a3 b0 b1 b2 b3 c0 c1 c2 c3 n0 n1 n2 n3; replace HB := Lib.hid (pure_below HB.out hb); replace HX := Lib.hid (HX.out.pure hb); replace HV := Lib.hid (HV.out.pure hb); replace HN := Lib.hid (HN.out.pure hb); replace HK := Lib.hid (HK.out.pure hb); replace HK2 := Lib.hid (HK2.out.pure hb); replace HK3 := Lib.hid (HK3.out.pure hb); clear hb; have a0 := cell0 HK.out; have a1 := cell1 HK.out; have a2 := cell2 HK.out; have a3 := cell3 HK.out; have b0 := cell0 HK2.out; have b1 := cell1 HK2.out; have b2 := cell2 HK2.out; have b3 := cell3 HK2.out; have c0 := cell0 HK3.out; have c1 := cell1 HK3.out; have c2 := cell2 HK3.out; have c3 := cell3 HK3.out; have n0 := cell0 HN.out; have n1 := cell1 HN.out; have n2 := cell2 HN.out; have n3 := cell3 HN.out))
  clear a0 a1 a2 a3 b0 b1 b2 b3 c0 c1 c2 c3 n0 n1 n2 n3 HK HK2 HK3
  go_upto_region 7 with fail
  have v0 := cell0 HV.out; have v1 := cell1 HV.out; have v2 := cell2 HV.out; have v3 := cell3 HV.out; have n0 := cell0 HN.out; have n1 := cell1 HN.out; have n2 := cell2 HN.out; have n3 := cell3 HN.out
  go_region_held3 (fun w' => (w'.cell? ⟨gV, 0, none⟩ = some (.int .i64 14) ∧ w'.cell? ⟨gV, 1, none⟩ = some (.int .i64 1) ∧ w'.cell? ⟨gV, 2, none⟩ = some (.int .i64 9) ∧ w'.cell? ⟨gV, 3, none⟩ = some (.int .i64 1)) ∧ w'.cell? ⟨gN, 0, none⟩ = some (.int .i64 0) ∧ w'.cell? ⟨gN, 1, none⟩ = some (.int .i64 0) ∧ w'.cell? ⟨gN, 2, none⟩ = some (.int .i64 0) ∧ w'.cell? ⟨gN, 3, none⟩ = some (.int .i64 0)) (first | with_reducible exact ⟨⟨v0, v1, v2, v3⟩, n0, n1, n2, n3⟩ | with_reducible exact ⟨⟨ldrew v0, ldrew v1, ldrew v2, ldrew v3⟩, ldrew n0, ldrew n1, ldrew n2, ldrew n3⟩)
    (first
      | (go_at_call 30; (with_reducible refine (tells_yes _ 17 17 14 1 9 1 0 0 [97] _ _ (isl_drew HX.out) (by decide) (by decide) w25_4.1 w25_4.2).mono ?_); rintro e wn ⟨rfl, hb⟩; clear v0 v1 v2 v3 n0 n1 n2 n3; (first | (with_reducible have hb2 := pure_trans (below_drew _) hb; clear hb; have hb := hb2; clear hb2) | skip); replace HB := Lib.hid (pure_below HB.out hb); replace HX := Lib.hid (HX.out.pure hb); replace HV := Lib.hid (HV.out.pure hb); replace HN := Lib.hid (HN.out.pure hb); clear hb; have v0 := cell0 HV.out; have v1 := cell1 HV.out; have v2 := cell2 HV.out; have v3 := cell3 HV.out; have n0 := cell0 HN.out; have n1 := cell1 HN.out; have n2 := cell2 HN.out; have n3 := cell3 HN.out)
      | (go_at_call 30; (with_reducible refine (tells_yes _ 17 17 14 1 9 1 2 6 [] _ _ HX.out (by decide) (by decide) w25_5.1 w25_5.2).mono ?_); rintro e wn ⟨rfl, hb⟩; clear v0 v1 v2 v3 n0 n1 n2 n3; (first | (with_reducible have hb2 := pure_trans (below_drew _) hb; clear hb; have hb := hb2; clear hb2) | skip); replace HB := Lib.hid (pure_below HB.out hb); replace HX := Lib.hid (HX.out.pure hb); replace HV := Lib.hid (HV.out.pure hb); replace HN := Lib.hid (HN.out.pure hb); clear hb; have v0 := cell0 HV.out; have v1 := cell1 HV.out; have v2 := cell2 HV.out; have v3 := cell3 HV.out; have n0 := cell0 HN.out; have n1 := cell1 HN.out; have n2 := cell2 HN.out; have n3 := cell3 HN.out)
      | (go_at_call 59; (with_reducible refine (of25_spec 11 1 1 1 _).mono ?_); rintro e wn ⟨rfl, hb⟩; clear v0 v1 v2 v3 n0 n1 n2 n3; (first | (with_reducible have hb2 := pure_trans (below_drew _) hb; clear hb; have hb := hb2; clear hb2) | skip); replace HB := Lib.hid (pure_below HB.out hb); replace HX := Lib.hid (HX.out.pure hb); replace HV := Lib.hid (HV.out.pure hb); replace HN := Lib.hid (HN.out.pure hb); clear hb; have v0 := cell0 HV.out; have v1 := cell1 HV.out; have v2 := cell2 HV.out; have v3 := cell3 HV.out; have n0 := cell0 HN.out; have n1 := cell1 HN.out; have n2 := cell2 HN.out; have n3 := cell3 HN.out)
      | (go_at_call 31; (with_reducible refine (finds_yes _ 17 17 14 1 9 1 11 1 1 1 0 true _ [98] _ HX.out (by decide) (by decide) w25_6.1 w25_6.2.1 w25_6.2.2.1 w25_6.2.2.2.1 w25_6.2.2.2.2.1 w25_6.2.2.2.2.2).mono ?_); rintro e wn ⟨rfl, hb⟩; clear v0 v1 v2 v3 n0 n1 n2 n3; (first | (with_reducible have hb2 := pure_trans (below_drew _) hb; clear hb; have hb := hb2; clear hb2) | skip); replace HB := Lib.hid (pure_below HB.out hb); replace HX := Lib.hid (HX.out.pure hb); replace HV := Lib.hid (HV.out.pure hb); replace HN := Lib.hid (HN.out.pure hb); clear hb; have v0 := cell0 HV.out; have v1 := cell1 HV.out; have v2 := cell2 HV.out; have v3 := cell3 HV.out; have n0 := cell0 HN.out; have n1 := cell1 HN.out; have n2 := cell2 HN.out; have n3 := cell3 HN.out)
      | (go_at_call 31; (with_reducible refine (finds_yes _ 17 17 14 1 9 1 0 0 0 0 0 false _ [99] _ HX.out (by decide) (by decide) w25_7.1 w25_7.2.1 w25_7.2.2.1 w25_7.2.2.2.1 w25_7.2.2.2.2.1 w25_7.2.2.2.2.2).mono ?_); rintro e wn ⟨rfl, hb⟩; clear v0 v1 v2 v3 n0 n1 n2 n3; (first | (with_reducible have hb2 := pure_trans (below_drew _) hb; clear hb; have hb := hb2; clear hb2) | skip); replace HB := Lib.hid (pure_below HB.out hb); replace HX := Lib.hid (HX.out.pure hb); replace HV := Lib.hid (HV.out.pure hb); replace HN := Lib.hid (HN.out.pure hb); clear hb; have v0 := cell0 HV.out; have v1 := cell1 HV.out; have v2 := cell2 HV.out; have v3 := cell3 HV.out; have n0 := cell0 HN.out; have n1 := cell1 HN.out; have n2 := cell2 HN.out; have n3 := cell3 HN.out)
      | (go_at_call 31; (with_reducible refine (finds_yes _ 17 17 14 1 9 1 0 0 0 0 0 false _ [] _ HX.out (by decide) (by decide) w25_8.1 w25_8.2.1 w25_8.2.2.1 w25_8.2.2.2.1 w25_8.2.2.2.2.1 w25_8.2.2.2.2.2).mono ?_); rintro e wn ⟨rfl, hb⟩; clear v0 v1 v2 v3 n0 n1 n2 n3; (first | (with_reducible have hb2 := pure_trans (below_drew _) hb; clear hb; have hb := hb2; clear hb2) | skip); replace HB := Lib.hid (pure_below HB.out hb); replace HX := Lib.hid (HX.out.pure hb); replace HV := Lib.hid (HV.out.pure hb); replace HN := Lib.hid (HN.out.pure hb); clear hb; have v0 := cell0 HV.out; have v1 := cell1 HV.out; have v2 := cell2 HV.out; have v3 := cell3 HV.out; have n0 := cell0 HN.out; have n1 := cell1 HN.out; have n2 := cell2 HN.out; have n3 := cell3 HN.out)
      | (go_at_call 58; (with_reducible refine (example_at 4 1 4 1 _ (by decide) (by decide) (by decide)).mono ?_); rintro e wn ⟨rfl, hx, hb⟩; have HY := Lib.hid hx; clear hx; clear v0 v1 v2 v3 n0 n1 n2 n3; (first | (with_reducible have hb2 := pure_trans (below_drew _) hb; clear hb; have hb := hb2; clear hb2) | skip); replace HB := Lib.hid (pure_below HB.out hb); replace HX := Lib.hid (HX.out.pure hb); replace HV := Lib.hid (HV.out.pure hb); replace HN := Lib.hid (HN.out.pure hb); clear hb; have v0 := cell0 HV.out; have v1 := cell1 HV.out; have v2 := cell2 HV.out; have v3 := cell3 HV.out; have n0 := cell0 HN.out; have n1 := cell1 HN.out; have n2 := cell2 HN.out; have n3 := cell3 HN.out)
      | (go_at_call 30; (with_reducible refine (tells_yes _ 17 17 14 1 9 1 0 214 [] _ _ HY.out (by decide) (by decide) w25_9.1 w25_9.2).mono ?_); rintro e wn ⟨rfl, hb⟩; clear v0 v1 v2 v3 n0 n1 n2 n3; (first | (with_reducible have hb2 := pure_trans (below_drew _) hb; clear hb; have hb := hb2; clear hb2) | skip); replace HB := Lib.hid (pure_below HB.out hb); replace HX := Lib.hid (HX.out.pure hb); replace HV := Lib.hid (HV.out.pure hb); replace HN := Lib.hid (HN.out.pure hb); clear hb; have v0 := cell0 HV.out; have v1 := cell1 HV.out; have v2 := cell2 HV.out; have v3 := cell3 HV.out; have n0 := cell0 HN.out; have n1 := cell1 HN.out; have n2 := cell2 HN.out; have n3 := cell3 HN.out)
      | (go_at_call 58; (with_reducible refine (example_at 5 6 5 6 _ (by decide) (by decide) (by decide)).mono ?_); rintro e wn ⟨rfl, hx, hb⟩; clear HY; have HY := Lib.hid hx; clear hx; clear v0 v1 v2 v3 n0 n1 n2 n3; (first | (with_reducible have hb2 := pure_trans (below_drew _) hb; clear hb; have hb := hb2; clear hb2) | skip); replace HB := Lib.hid (pure_below HB.out hb); replace HX := Lib.hid (HX.out.pure hb); replace HV := Lib.hid (HV.out.pure hb); replace HN := Lib.hid (HN.out.pure hb); clear hb; have v0 := cell0 HV.out; have v1 := cell1 HV.out; have v2 := cell2 HV.out; have v3 := cell3 HV.out; have n0 := cell0 HN.out; have n1 := cell1 HN.out; have n2 := cell2 HN.out; have n3 := cell3 HN.out)
      | (go_at_call 30; (with_reducible refine (tells_yes _ 17 17 14 1 9 1 0 211 [] _ _ HY.out (by decide) (by decide) w25_10.1 w25_10.2).mono ?_); rintro e wn ⟨rfl, hb⟩; clear v0 v1 v2 v3 n0 n1 n2 n3; (first | (with_reducible have hb2 := pure_trans (below_drew _) hb; clear hb; have hb := hb2; clear hb2) | skip); replace HB := Lib.hid (pure_below HB.out hb); replace HX := Lib.hid (HX.out.pure hb); replace HV := Lib.hid (HV.out.pure hb); replace HN := Lib.hid (HN.out.pure hb); clear hb; have v0 := cell0 HV.out; have v1 := cell1 HV.out; have v2 := cell2 HV.out; have v3 := cell3 HV.out; have n0 := cell0 HN.out; have n1 := cell1 HN.out; have n2 := cell2 HN.out; have n3 := cell3 HN.out))
  go_wp2
  go_ret
  exact ⟨rfl, HB.out⟩
end Go.Proofs.YtfoifdoaleaekaaGreat
