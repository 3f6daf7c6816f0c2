/-
  RefWhole, the walk.
-/
import Derived.Test.YtfoifdoaleaekaaGreatQa47
namespace Go.Proofs.YtfoifdoaleaekaaGreat
open Go.RowKit Go.Acc
/-- The cut of the law's tree: what is known of it. -/
theorem cut_tree {x : Nv} {t : Tr} {w : World} (h : NodeI w x t) (hN : NumT t) : ∃ T, (∀ W, Below w.heap.size w W → Calls Tryz.prog 9 #[.agg #[.int .i64 x.k, .int .i64 x.n, .int .u64 (x.u : Int), .string ⟨x.s.toArray⟩, .slice x.A x.an x.ac, .slice x.B x.bn x.bc], .int .i64 80, .int .i64 60] W (TreeW W T)) ∧ NumT T ∧ T.cost ≤ 1000000 ∧ (Val T → T.cost ≤ 65000) := by
  have hc := cut_cost 60 79 t (by omega)
  refine ⟨(cutT 60 t 79).1, fun W hb => ?_, cutT_num 60 t 79 hN, by omega, hc.2⟩
  exact cut_spec 60 79 (h.pure hb) (by omega)
set_option maxRecDepth 100000 in
set_option maxHeartbeats 4000000 in
theorem whole_er (x : Nv) (T : Tr) (fl ah er : Int) (w : World) (hC : ∀ W, Below w.heap.size w W → Calls Tryz.prog 9 #[.agg #[.int .i64 x.k, .int .i64 x.n, .int .u64 (x.u : Int), .string ⟨x.s.toArray⟩, .slice x.A x.an x.ac, .slice x.B x.bn x.bc], .int .i64 80, .int .i64 60] W (TreeW W T)) (hc : T.cost ≤ 1000000) (he : (chk ers 0 T 0).1 = er) (hne : er ≠ 0) :
    Calls Tryz.prog 3 #[.agg #[.int .i64 x.k, .int .i64 x.n, .int .u64 (x.u : Int), .string ⟨x.s.toArray⟩, .slice x.A x.an x.ac, .slice x.B x.bn x.bc], .int .i64 fl, .int .i64 ah] w fun e w' => e = .returned (.bool true) ∧ Below w.heap.size w w' := by
  have HCUT := Lib.hid hC
  have HCO := Lib.hid hc
  have HE := Lib.hid (And.intro he hne)
  have hb1 : (er != 0) = true := by simpa using hne
  clear hC hc he hne
  have HB0 := Lib.hid (show Below w.heap.size w (w.alloc (.cells #[.int .i64 x.k, .int .i64 x.n, .int .u64 (x.u : Int), .string ⟨x.s.toArray⟩, .slice x.A x.an x.ac, .slice x.B x.bn x.bc] 26)) from (Below.refl _ _).alloc (Nat.le_refl _) _)
  have HX0 := Lib.hid (Blk.new w 26 #[.int .i64 x.k, .int .i64 x.n, .int .u64 (x.u : Int), .string ⟨x.s.toArray⟩, .slice x.A x.an x.ac, .slice x.B x.bn x.bc])
  go_enter Tryz.func3, Tryz.ntmps3
  go_upto_region 1 with fail
  generalize w.alloc (.cells #[.int .i64 x.k, .int .i64 x.n, .int .u64 (x.u : Int), .string ⟨x.s.toArray⟩, .slice x.A x.an x.ac, .slice x.B x.bn x.bc] 26) = w1 at HB0 HX0 ⊢
  generalize hbt : w.heap.size = bt at HX0 ⊢
  have HT := Lib.hid hbt
  clear hbt
  go_wp2_with fail
  go_at_call 8
  refine (refworks_spec _).mono ?_
  rintro e w2 ⟨rfl, hb⟩
  have HB1 := Lib.hid (pure_below HB0.out hb)
  have HX1 := Lib.hid (HX0.out.pure hb)
  have HC1 := Lib.hid (HCUT.out w2 HB1.out)
  clear hb HB0 HX0
  have x0 : w2.cell? ⟨bt, 0, none⟩ = some (.int .i64 x.k) := HX1.out.cell 0
  have x1 : w2.cell? ⟨bt, 1, none⟩ = some (.int .i64 x.n) := HX1.out.cell 1
  have x2 : w2.cell? ⟨bt, 2, none⟩ = some (.int .u64 (x.u : Int)) := HX1.out.cell 2
  have x3 : w2.cell? ⟨bt, 3, none⟩ = some (.string ⟨x.s.toArray⟩) := HX1.out.cell 3
  have x4 : w2.cell? ⟨bt, 4, none⟩ = some (.slice x.A x.an x.ac) := HX1.out.cell 4
  have x5 : w2.cell? ⟨bt, 5, none⟩ = some (.slice x.B x.bn x.bc) := HX1.out.cell 5
  go_wp2_with fail
  go_at_call 9
  refine HC1.out.mono ?_
  rintro e w3 ⟨y, rfl, hN3, hb3⟩
  have HN3 := Lib.hid hN3
  have HB3 := Lib.hid (pure_below HB1.out hb3)
  have HX3 := Lib.hid (HX1.out.pure hb3)
  have HS3 := Lib.hid (show bt < w2.heap.size from HX1.out.lt)
  clear hN3 hb3 x0 x1 x2 x3 x4 x5
  have x0 : w3.cell? ⟨bt, 0, none⟩ = some (.int .i64 x.k) := HX3.out.cell 0
  have x1 : w3.cell? ⟨bt, 1, none⟩ = some (.int .i64 x.n) := HX3.out.cell 1
  have x2 : w3.cell? ⟨bt, 2, none⟩ = some (.int .u64 (x.u : Int)) := HX3.out.cell 2
  have x3 : w3.cell? ⟨bt, 3, none⟩ = some (.string ⟨x.s.toArray⟩) := HX3.out.cell 3
  have x4 : w3.cell? ⟨bt, 4, none⟩ = some (.slice x.A x.an x.ac) := HX3.out.cell 4
  have x5 : w3.cell? ⟨bt, 5, none⟩ = some (.slice x.B x.bn x.bc) := HX3.out.cell 5
  have hfz : ∀ j, w3.frozen? ⟨bt, j, none⟩ = false := fun j => HX3.out.frozen j
  have f0 := hfz 0
  have f1 := hfz 1
  have f2 := hfz 2
  have f3 := hfz 3
  have f4 := hfz 4
  have f5 := hfz 5
  clear hfz
  go_upto_region 4 with fail
  have hF4 := fr_set6 w3 bt (.int .i64 y.k) (.int .i64 y.n) (.int .u64 (y.u : Int)) (.string ⟨y.s.toArray⟩) (.slice y.A y.an y.ac) (.slice y.B y.bn y.bc)
  have HX4 := Lib.hid (show Blk (((((((w3.setCell ⟨bt, 0, none⟩ (.int .i64 y.k)).setCell ⟨bt, 1, none⟩ (.int .i64 y.n)).setCell ⟨bt, 2, none⟩ (.int .u64 (y.u : Int))).setCell ⟨bt, 3, none⟩ (.string ⟨y.s.toArray⟩)).setCell ⟨bt, 4, none⟩ (.slice y.A y.an y.ac)).setCell ⟨bt, 5, none⟩ (.slice y.B y.bn y.bc))) bt 26 #[.int .i64 y.k, .int .i64 y.n, .int .u64 (y.u : Int), .string ⟨y.s.toArray⟩, .slice y.A y.an y.ac, .slice y.B y.bn y.bc] from (((((HX3.out.set_ 0 _).set_ 1 _).set_ 2 _).set_ 3 _).set_ 4 _).set_ 5 _)
  generalize ((((((w3.setCell ⟨bt, 0, none⟩ (.int .i64 y.k)).setCell ⟨bt, 1, none⟩ (.int .i64 y.n)).setCell ⟨bt, 2, none⟩ (.int .u64 (y.u : Int))).setCell ⟨bt, 3, none⟩ (.string ⟨y.s.toArray⟩)).setCell ⟨bt, 4, none⟩ (.slice y.A y.an y.ac)).setCell ⟨bt, 5, none⟩ (.slice y.B y.bn y.bc)) = w4 at hF4 HX4 ⊢
  have hs3 := HS3.out
  have hs4 := hF4.size
  have hbt := HT.out
  have HN4 := Lib.hid (show NodeR w4 (fun b => b < w4.heap.size) y T from (HN3.out.keep fun a u hc hp => cell_fr hF4 hc (by omega)).mono fun b hb => by omega)
  have HB4 := Lib.hid (below_fr HB3.out hF4 (by rintro j rfl; exact Nat.le_of_eq hbt))
  clear hF4 hs3 hs4 hbt x0 x1 x2 x3 x4 x5 f0 f1 f2 f3 f4 f5 HX3 HB3 HN3
  have x0 : w4.cell? ⟨bt, 0, none⟩ = some (.int .i64 y.k) := HX4.out.cell 0
  have x1 : w4.cell? ⟨bt, 1, none⟩ = some (.int .i64 y.n) := HX4.out.cell 1
  have x2 : w4.cell? ⟨bt, 2, none⟩ = some (.int .u64 (y.u : Int)) := HX4.out.cell 2
  have x3 : w4.cell? ⟨bt, 3, none⟩ = some (.string ⟨y.s.toArray⟩) := HX4.out.cell 3
  have x4 : w4.cell? ⟨bt, 4, none⟩ = some (.slice y.A y.an y.ac) := HX4.out.cell 4
  have x5 : w4.cell? ⟨bt, 5, none⟩ = some (.slice y.B y.bn y.bc) := HX4.out.cell 5
  have HBD := Lib.hid (build_er fl HN4.out (fun k hk => hk) HCO.out HE.out.1 HE.out.2)
  go_wp2_with fail
  go_at_call 10
  refine HBD.out.mono ?_
  rintro e w5 ⟨rfl, hb⟩
  have HB5 := Lib.hid (pure_below HB4.out hb)
  have HX5 := Lib.hid (HX4.out.pure hb)
  have HCH := Lib.hid (check_spec (HN4.out.pure hb) (fun k hk => Nat.lt_of_lt_of_le hk hb.size) (fun y hy s hs => by have := pre_keys T 0 y hy s hs; have := HCO.out; omega) (by have := pre_cost T 0; have := HCO.out; omega))
  rw [HE.out.1] at HCH
  clear hb x0 x1 x2 x3 x4 x5
  have x0 : w5.cell? ⟨bt, 0, none⟩ = some (.int .i64 y.k) := HX5.out.cell 0
  have x1 : w5.cell? ⟨bt, 1, none⟩ = some (.int .i64 y.n) := HX5.out.cell 1
  have x2 : w5.cell? ⟨bt, 2, none⟩ = some (.int .u64 (y.u : Int)) := HX5.out.cell 2
  have x3 : w5.cell? ⟨bt, 3, none⟩ = some (.string ⟨y.s.toArray⟩) := HX5.out.cell 3
  have x4 : w5.cell? ⟨bt, 4, none⟩ = some (.slice y.A y.an y.ac) := HX5.out.cell 4
  have x5 : w5.cell? ⟨bt, 5, none⟩ = some (.slice y.B y.bn y.bc) := HX5.out.cell 5
  go_wp2_with fail
  go_at_call 11
  refine HCH.out.mono ?_
  rintro e w6 ⟨rfl, hb⟩
  have HB6 := Lib.hid (pure_below HB5.out hb)
  clear hb
  go_wp2_with fail
  go_ret
  exact ⟨rfl, HB6.out⟩
set_option maxRecDepth 100000 in
set_option maxHeartbeats 8000000 in
theorem whole_ok (x : Nv) (T : Tr) (fl ah : Int) (w : World) (hC : ∀ W, Below w.heap.size w W → Calls Tryz.prog 9 #[.agg #[.int .i64 x.k, .int .i64 x.n, .int .u64 (x.u : Int), .string ⟨x.s.toArray⟩, .slice x.A x.an x.ac, .slice x.B x.bn x.bc], .int .i64 80, .int .i64 60] W (TreeW W T)) (hN : NumT T) (hc : T.cost ≤ 65000) (he : (chk ers 0 T 0).1 = 0) :
    Calls Tryz.prog 3 #[.agg #[.int .i64 x.k, .int .i64 x.n, .int .u64 (x.u : Int), .string ⟨x.s.toArray⟩, .slice x.A x.an x.ac, .slice x.B x.bn x.bc], .int .i64 fl, .int .i64 ah] w fun e w' => e = .returned (.bool true) ∧ Below w.heap.size w w' := by
  obtain ⟨b, v, yw, ed, hrep, hyw, hfit, hlw, hleg, hvw, hkd, hbl⟩ := doc_all (Go.Proofs.YtfoifdoaleaekaaGreat.bits fl) (chk_val ers_ok T 0 0 he) hc
  have HCUT := Lib.hid hC
  have HCO := Lib.hid (And.intro hc he)
  have HNT := Lib.hid hN
  obtain ⟨rt1, rt2⟩ := root_doc (x := []) (b := b) (v := v) (w := yw) rfl hyw hleg hvw
  rw [List.nil_append, List.length_nil, Nat.zero_add] at rt2
  rw [List.nil_append] at rt1
  have HRC := Lib.hid (fun (N : Nat) (hN8 : N % 8 = 0) => root_doc (x := List.replicate N 0) (b := b) (v := v) (w := yw) (by simpa using hN8) hyw hleg hvw)
  have HTG := Lib.hid (fun (z : List UInt8) => doc_target (x := z) (b := b) (v := v) (w := yw) hyw hleg hvw (by omega) hfit)
  have HMY := Lib.hid (doc_may (x := []) (b := b) (v := v) (w := yw) hyw hleg hvw)
  have hdl : (docB b v yw).length ≤ 65040 := by
    have h1 := bdoc_len [] b v yw
    have h2 := alignB_le8 b (isW_nat.2 (isW_nat.1 hyw))
    have h3 : yw ≤ 8 := by rcases isW_nat.1 hyw with h | h | h | h <;> omega
    simp only [List.nil_append, List.length_nil] at h1
    omega
  obtain ⟨P, hP⟩ : ∃ P, (alignB yw b).length = P := ⟨_, rfl⟩
  obtain ⟨d, hd⟩ : ∃ d, docB b v yw = d := ⟨_, rfl⟩
  obtain ⟨tt, htt⟩ : ∃ tt, v.t = tt := ⟨_, rfl⟩
  obtain ⟨V, hV⟩ : ∃ V, ownW yw v = V := ⟨_, rfl⟩
  obtain ⟨vn, hvn⟩ : ∃ vn, v.n = vn := ⟨_, rfl⟩
  rw [hd, hP, htt, hV] at rt2
  rw [hd] at rt1 ed hdl
  simp only [hd, hP, htt, hV, hvn, List.length_replicate] at HRC HTG
  simp only [List.nil_append, List.length_nil, Nat.zero_add, hd, hP, htt, hV] at HMY
  have hPd : P ≤ 65040 := by
    have h2 := alignB_le8 b (isW_nat.2 (isW_nat.1 hyw))
    omega
  rw [htt] at hkd
  have HRE := Lib.hid rt1
  have HRR := Lib.hid rt2
  have HED := Lib.hid ed
  have HDL := Lib.hid hdl
  have HKD := Lib.hid hkd
  have HPD := Lib.hid hPd
  clear hrep hlw hC hc he hN ed hyw hfit hleg hvw hkd hbl rt1 rt2 hdl hP hd htt hV hvn hPd
  have HB0 := Lib.hid (show Below w.heap.size w (w.alloc (.cells #[.int .i64 x.k, .int .i64 x.n, .int .u64 (x.u : Int), .string ⟨x.s.toArray⟩, .slice x.A x.an x.ac, .slice x.B x.bn x.bc] 26)) from (Below.refl _ _).alloc (Nat.le_refl _) _)
  have HX0 := Lib.hid (Blk.new w 26 #[.int .i64 x.k, .int .i64 x.n, .int .u64 (x.u : Int), .string ⟨x.s.toArray⟩, .slice x.A x.an x.ac, .slice x.B x.bn x.bc])
  go_enter Tryz.func3, Tryz.ntmps3
  go_upto_region 1 with fail
  generalize w.alloc (.cells #[.int .i64 x.k, .int .i64 x.n, .int .u64 (x.u : Int), .string ⟨x.s.toArray⟩, .slice x.A x.an x.ac, .slice x.B x.bn x.bc] 26) = w1 at HB0 HX0 ⊢
  generalize hbt : w.heap.size = bt at HX0 ⊢
  have HT := Lib.hid hbt
  clear hbt
  go_wp2_with fail
  go_at_call 8
  refine (refworks_spec _).mono ?_
  rintro e w2 ⟨rfl, hb⟩
  have HB1 := Lib.hid (pure_below HB0.out hb)
  have HX1 := Lib.hid (HX0.out.pure hb)
  have HC1 := Lib.hid (HCUT.out w2 HB1.out)
  clear hb HB0 HX0
  have x0 : w2.cell? ⟨bt, 0, none⟩ = some (.int .i64 x.k) := HX1.out.cell 0
  have x1 : w2.cell? ⟨bt, 1, none⟩ = some (.int .i64 x.n) := HX1.out.cell 1
  have x2 : w2.cell? ⟨bt, 2, none⟩ = some (.int .u64 (x.u : Int)) := HX1.out.cell 2
  have x3 : w2.cell? ⟨bt, 3, none⟩ = some (.string ⟨x.s.toArray⟩) := HX1.out.cell 3
  have x4 : w2.cell? ⟨bt, 4, none⟩ = some (.slice x.A x.an x.ac) := HX1.out.cell 4
  have x5 : w2.cell? ⟨bt, 5, none⟩ = some (.slice x.B x.bn x.bc) := HX1.out.cell 5
  go_wp2_with fail
  go_at_call 9
  refine HC1.out.mono ?_
  rintro e w3 ⟨y, rfl, hN3, hb3⟩
  have HN3 := Lib.hid hN3
  have HB3 := Lib.hid (pure_below HB1.out hb3)
  have HX3 := Lib.hid (HX1.out.pure hb3)
  have HS3 := Lib.hid (show bt < w2.heap.size from HX1.out.lt)
  clear hN3 hb3 x0 x1 x2 x3 x4 x5
  have x0 : w3.cell? ⟨bt, 0, none⟩ = some (.int .i64 x.k) := HX3.out.cell 0
  have x1 : w3.cell? ⟨bt, 1, none⟩ = some (.int .i64 x.n) := HX3.out.cell 1
  have x2 : w3.cell? ⟨bt, 2, none⟩ = some (.int .u64 (x.u : Int)) := HX3.out.cell 2
  have x3 : w3.cell? ⟨bt, 3, none⟩ = some (.string ⟨x.s.toArray⟩) := HX3.out.cell 3
  have x4 : w3.cell? ⟨bt, 4, none⟩ = some (.slice x.A x.an x.ac) := HX3.out.cell 4
  have x5 : w3.cell? ⟨bt, 5, none⟩ = some (.slice x.B x.bn x.bc) := HX3.out.cell 5
  have hfz : ∀ j, w3.frozen? ⟨bt, j, none⟩ = false := fun j => HX3.out.frozen j
  have f0 := hfz 0
  have f1 := hfz 1
  have f2 := hfz 2
  have f3 := hfz 3
  have f4 := hfz 4
  have f5 := hfz 5
  clear hfz
  go_upto_region 4 with fail
  have hF4 := fr_set6 w3 bt (.int .i64 y.k) (.int .i64 y.n) (.int .u64 (y.u : Int)) (.string ⟨y.s.toArray⟩) (.slice y.A y.an y.ac) (.slice y.B y.bn y.bc)
  have HX4 := Lib.hid (show Blk (((((((w3.setCell ⟨bt, 0, none⟩ (.int .i64 y.k)).setCell ⟨bt, 1, none⟩ (.int .i64 y.n)).setCell ⟨bt, 2, none⟩ (.int .u64 (y.u : Int))).setCell ⟨bt, 3, none⟩ (.string ⟨y.s.toArray⟩)).setCell ⟨bt, 4, none⟩ (.slice y.A y.an y.ac)).setCell ⟨bt, 5, none⟩ (.slice y.B y.bn y.bc))) bt 26 #[.int .i64 y.k, .int .i64 y.n, .int .u64 (y.u : Int), .string ⟨y.s.toArray⟩, .slice y.A y.an y.ac, .slice y.B y.bn y.bc] from (((((HX3.out.set_ 0 _).set_ 1 _).set_ 2 _).set_ 3 _).set_ 4 _).set_ 5 _)
  generalize ((((((w3.setCell ⟨bt, 0, none⟩ (.int .i64 y.k)).setCell ⟨bt, 1, none⟩ (.int .i64 y.n)).setCell ⟨bt, 2, none⟩ (.int .u64 (y.u : Int))).setCell ⟨bt, 3, none⟩ (.string ⟨y.s.toArray⟩)).setCell ⟨bt, 4, none⟩ (.slice y.A y.an y.ac)).setCell ⟨bt, 5, none⟩ (.slice y.B y.bn y.bc)) = w4 at hF4 HX4 ⊢
  have hs3 := HS3.out
  have hs4 := hF4.size
  have hbt := HT.out
  have HN4 := Lib.hid (show NodeR w4 (fun b => b < w4.heap.size) y T from (HN3.out.keep fun a u hc hp => cell_fr hF4 hc (by omega)).mono fun b hb => by omega)
  have HB4 := Lib.hid (below_fr HB3.out hF4 (by rintro j rfl; exact Nat.le_of_eq hbt))
  clear hF4 hs3 hs4 hbt x0 x1 x2 x3 x4 x5 f0 f1 f2 f3 f4 f5 HX3 HB3 HN3
  have x0 : w4.cell? ⟨bt, 0, none⟩ = some (.int .i64 y.k) := HX4.out.cell 0
  have x1 : w4.cell? ⟨bt, 1, none⟩ = some (.int .i64 y.n) := HX4.out.cell 1
  have x2 : w4.cell? ⟨bt, 2, none⟩ = some (.int .u64 (y.u : Int)) := HX4.out.cell 2
  have x3 : w4.cell? ⟨bt, 3, none⟩ = some (.string ⟨y.s.toArray⟩) := HX4.out.cell 3
  have x4 : w4.cell? ⟨bt, 4, none⟩ = some (.slice y.A y.an y.ac) := HX4.out.cell 4
  have x5 : w4.cell? ⟨bt, 5, none⟩ = some (.slice y.B y.bn y.bc) := HX4.out.cell 5
  have HBD := Lib.hid (build_ok fl HN4.out (fun k hk => hk) HNT.out HCO.out.1 HCO.out.2)
  rw [HED.out] at HBD
  go_wp2_with fail
  go_at_call 10
  refine HBD.out.mono ?_
  intro e w5 hDoc
  obtain ⟨A1, n1, c1, rfl, hO, hb⟩ := hDoc
  have HO := Lib.hid hO
  have HN1 := Lib.hid (show n1 ≤ 65040 by rw [← hO.1]; exact HDL.out)
  have HB5 := Lib.hid (pure_below HB4.out hb)
  have HX5 := Lib.hid (HX4.out.pure hb)
  have HY5 := Lib.hid (HN4.out.fields)
  clear hb hO x0 x1 x2 x3 x4 x5 HBD HN4 HB4 HX4
  obtain ⟨q, hq⟩ : ∃ q : Nat, ah % 4 = (q : Int) := ⟨(ah % 4).toNat, by omega⟩
  have hq4 : q < 4 := by omega
  obtain ⟨N, hN⟩ : ∃ N : Nat, 8 * q = N := ⟨_, rfl⟩
  have HN8 := Lib.hid (show N % 8 = 0 by omega)
  have HN32 := Lib.hid (show N ≤ 32 by omega)
  have e1 : 8 * (q : Int) = (N : Int) := by omega
  have HBA := Lib.hid (show Calls Tryz.prog 12 #[.int .i64 ah, .int .i64 4] w5 fun e w' => e = .returned (.int .i64 (q : Int)) ∧ w5 = w' by rw [← hq]; exact bring_spec ah 4 w5 (by omega) (by omega))
  clear hq hq4 hN
  go_wp2_with fail
  go_at_call 12
  refine HBA.out.mono ?_
  rintro e w' ⟨rfl, rfl⟩
  go_upto_region 8 with fail
  have e2 : wrap64 (N : Int) = (N : Int) := wrap64_in _ (by have := HN32.out; omega)
  simp only [e2]
  obtain ⟨Z, hZ1, hZ2, hmk⟩ := make_b N (by have := HN32.out; omega)
  have HO6 := Lib.hid (show OwnB (w5.alloc (.cells Z 5)) w5.heap.size (some ⟨w5.heap.size, 0, none⟩) N N (List.replicate N 0) from ownb_at Z N _ rfl (by simp) (by have := HN32.out; omega) hZ2)
  have HI6 := Lib.hid (show IsB (w5.alloc (.cells Z 5)) A1 n1 d from HO.out.is.alloc (.cells Z 5))
  have HB6 := Lib.hid (show Below w5.heap.size w5 (w5.alloc (.cells Z 5)) from (Below.refl _ _).alloc (Nat.le_refl _) _)
  clear e1 e2 HBA hZ1 hZ2
  have hNn : N + n1 ≤ 70000 := by have h1 := HN32.out; have h2 := HN1.out; omega
  go_wp2_with (at_builtin; refine wpl_app _ rfl (.tmp 40) (.tmp 41) _ rfl 5 _ 1 1 Tryz.underlying29 info_b rfl (by omega) bc_len bc_one _ _ _ _ _ rfl HO6.out _ _ _ _ rfl HI6.out (by omega) HB6.out.size ?_; intro A2 c2 w6 hown hfr hat)
  have HO7 := Lib.hid hown
  have hbf := below_fr HB6.out hfr (by rintro j ⟨ad, e, rfl⟩; injection e with e; rw [← e]; exact Nat.le_refl _)
  have HI7 := Lib.hid (HO.out.is.pure hbf)
  have HB7 := Lib.hid (pure_below HB5.out hbf)
  have HX7 := Lib.hid (HX5.out.pure hbf)
  have HC1 := Lib.hid (show n1 ≤ c1 from HO.out.cap.1)
  have HA0 := Lib.hid (show ∀ ad, A1 = some ad → ad.block < w5.heap.size from fun ad e => (HO.out.addr ad e).2.2)
  have HB7s := Lib.hid (show w5.heap.size ≤ w6.heap.size from hbf.size)
  have hN1 := HN1.out
  have hN32 := HN32.out
  have hPd := HPD.out
  clear hown hfr hat hbf HB6 HI6 HO6 HO HB5 HX5 hmk
  refine (root_spec2 A1 n1 c1 d _ _ _ _ _ 0 HI7.out (by omega) HRR.out HRE.out).mono ?_
  rintro e w7 ⟨rfl, hb⟩
  have hal := (Below.refl w7.heap.size w7).alloc (Nat.le_refl _) (.cells #[.int .i64 (P : Int), .int .i64 (yw : Int), .int .i64 (tt : Int), .int .i64 (V : Int)] 36)
  have hbb := pure_trans hb hal
  have HI8 := Lib.hid (HI7.out.pure hbb)
  have HB8s := Lib.hid (show w6.heap.size ≤ _ from hbb.size)
  have HO8 := Lib.hid (HO7.out.pure hbb)
  have HB8 := Lib.hid (pure_below HB7.out hbb)
  have HX8 := Lib.hid (HX7.out.pure hbb)
  have HR8 := Lib.hid (Blk.new w7 36 #[.int .i64 (P : Int), .int .i64 (yw : Int), .int .i64 (tt : Int), .int .i64 (V : Int)])
  have HRC2 := HRC.out N HN8.out
  have HRCE := Lib.hid HRC2.1
  have HRCR := Lib.hid HRC2.2
  have HG8 := Lib.hid (show bt < w7.heap.size from Nat.lt_of_lt_of_le HX7.out.lt hb.size)
  clear hb hal hbb HRC2 HI7 HO7 HB7 HX7
  go_wp2_with fail
  go_at_call 13
  refine (root_spec2 A2 (N + n1) c2 (List.replicate N 0 ++ d) _ _ _ _ _ 0 HO8.out.is (by omega) HRCR.out HRCE.out).mono ?_
  rintro e w9 ⟨rfl, hb⟩
  have HI9 := Lib.hid (HI8.out.pure hb)
  have HB9s := Lib.hid (show w5.heap.size ≤ w9.heap.size from Nat.le_trans HB7s.out (Nat.le_trans HB8s.out hb.size))
  have HO9 := Lib.hid (HO8.out.pure hb)
  have HB9 := Lib.hid (pure_below HB8.out hb)
  have HX9 := Lib.hid (HX8.out.pure hb)
  have HR9 := Lib.hid (HR8.out.pure hb)
  generalize w7.heap.size = b11 at HR9 HG8 ⊢
  have HC2 := Lib.hid (show N + n1 ≤ c2 from HO9.out.cap.1)
  have hG9 : b11 < w9.heap.size := HR9.out.lt
  have HA1 := Lib.hid (show ∀ ad, A1 = some ad → ad.block < w9.heap.size from fun ad e => Nat.lt_of_lt_of_le (HA0.out ad e) HB9s.out)
  have HA2 := Lib.hid (show ∀ ad, A2 = some ad → ad.block < w9.heap.size from fun ad e => (HO9.out.addr ad e).2.2)
  clear hb HI8 HO8 HB8 HX8 HR8
  go_upto_region 11 with fail
  have hal := (Below.refl w9.heap.size w9).alloc (Nat.le_refl _) (.cells #[.int .i64 ((N : Int) + (P : Int)), .int .i64 (yw : Int), .int .i64 (tt : Int), .int .i64 (V : Int)] 36)
  have HI10 := Lib.hid (HI9.out.pure hal)
  have HO10 := Lib.hid (HO9.out.pure hal)
  have HB10 := Lib.hid (pure_below HB9.out hal)
  have HX10 := Lib.hid (HX9.out.pure hal)
  have HR10 := Lib.hid (HR9.out.pure hal)
  have HS10 := Lib.hid (Blk.new w9 36 #[.int .i64 ((N : Int) + (P : Int)), .int .i64 (yw : Int), .int .i64 (tt : Int), .int .i64 (V : Int)])
  generalize w9.alloc (.cells #[.int .i64 ((N : Int) + (P : Int)), .int .i64 (yw : Int), .int .i64 (tt : Int), .int .i64 (V : Int)] 36) = w10 at HI10 HO10 HB10 HX10 HR10 HS10 ⊢
  generalize w9.heap.size = b13 at HS10 hG9 HA1 HA2 ⊢
  clear hal HI9 HO9 HB9 HX9 HR9
  have r0 : w10.cell? ⟨b11, 0, none⟩ = some (.int .i64 (P : Int)) := HR10.out.cell 0
  have r1 : w10.cell? ⟨b11, 1, none⟩ = some (.int .i64 (yw : Int)) := HR10.out.cell 1
  have r2 : w10.cell? ⟨b11, 2, none⟩ = some (.int .i64 (tt : Int)) := HR10.out.cell 2
  have r3 : w10.cell? ⟨b11, 3, none⟩ = some (.int .i64 (V : Int)) := HR10.out.cell 3
  go_upto_region 12 with fail
  have hal := (Below.refl w10.heap.size w10).alloc (Nat.le_refl _) (.cells #[.int .i64 (P : Int), .int .i64 (yw : Int), .int .i64 (tt : Int), .int .i64 (V : Int)] 36)
  have HI11 := Lib.hid (HI10.out.pure hal)
  have HO11 := Lib.hid (HO10.out.pure hal)
  have HB11 := Lib.hid (pure_below HB10.out hal)
  have HX11 := Lib.hid (HX10.out.pure hal)
  have HR11 := Lib.hid (HR10.out.pure hal)
  have HS11 := Lib.hid (HS10.out.pure hal)
  have HT11 := Lib.hid (Blk.new w10 36 #[.int .i64 (P : Int), .int .i64 (yw : Int), .int .i64 (tt : Int), .int .i64 (V : Int)])
  have hS10 : b13 < w10.heap.size := HS10.out.lt
  generalize w10.alloc (.cells #[.int .i64 (P : Int), .int .i64 (yw : Int), .int .i64 (tt : Int), .int .i64 (V : Int)] 36) = w11 at HI11 HO11 HB11 HX11 HR11 HS11 HT11 ⊢
  have hG11 : bt < w10.heap.size := HX10.out.lt
  generalize w10.heap.size = b15 at HT11 hS10 hG11 ⊢
  clear hal HI10 HO10 HB10 HX10 HR10 HS10 r0 r1 r2 r3
  have q0 : w11.cell? ⟨b15, 0, none⟩ = some (.int .i64 (P : Int)) := HT11.out.cell 0
  have qf : w11.frozen? ⟨b15, 0, none⟩ = false := HT11.out.frozen 0
  go_upto_region 13 with fail
  obtain ⟨Q, hQ⟩ : ∃ Q : Nat, N + P = Q := ⟨_, rfl⟩
  have eQ : (N : Int) + (P : Int) = (Q : Int) := by omega
  rw [Int.add_comm (P : Int) (N : Int), eQ]
  rw [eQ] at HS11
  have HQ := Lib.hid hQ
  have hQ9 : Q ≤ 70000 := by omega
  clear eQ hQ q0 qf
  have hf12 := Fr.setCell (S := fun j => j = b15) (Fr.refl _ w11) (p := ⟨b15, 0, none⟩) (fun _ => rfl) (.int .i64 (Q : Int))
  have HT12 := Lib.hid (show Blk (w11.setCell ⟨b15, 0, none⟩ (.int .i64 (Q : Int))) b15 36 #[.int .i64 (Q : Int), .int .i64 (yw : Int), .int .i64 (tt : Int), .int .i64 (V : Int)] from HT11.out.set_ 0 _)
  have HI12 := Lib.hid (HI11.out.fr hf12 (fun ad e => by have := HA1.out ad e; omega))
  have HO12 := Lib.hid (HO11.out.fr hf12 (fun ad e => by have := HA2.out ad e; omega))
  have HX12 := Lib.hid (HX11.out.fr hf12 (by omega))
  have HR12 := Lib.hid (HR11.out.fr hf12 (by omega))
  have HS12 := Lib.hid (HS11.out.fr hf12 (by omega))
  have HB12 := Lib.hid (below_fr HB11.out hf12 (by rintro j rfl; have h1 := HT.out; omega))
  generalize w11.setCell ⟨b15, 0, none⟩ (.int .i64 (Q : Int)) = w12 at HT12 HI12 HO12 HX12 HR12 HS12 HB12 ⊢
  clear hf12 HT11 HI11 HO11 HX11 HR11 HS11 HB11
  have r0 : w12.cell? ⟨b11, 0, none⟩ = some (.int .i64 (P : Int)) := HR12.out.cell 0
  have r1 : w12.cell? ⟨b11, 1, none⟩ = some (.int .i64 (yw : Int)) := HR12.out.cell 1
  have r2 : w12.cell? ⟨b11, 2, none⟩ = some (.int .i64 (tt : Int)) := HR12.out.cell 2
  have r3 : w12.cell? ⟨b11, 3, none⟩ = some (.int .i64 (V : Int)) := HR12.out.cell 3
  have s0 : w12.cell? ⟨b13, 0, none⟩ = some (.int .i64 (Q : Int)) := HS12.out.cell 0
  have s1 : w12.cell? ⟨b13, 1, none⟩ = some (.int .i64 (yw : Int)) := HS12.out.cell 1
  have s2 : w12.cell? ⟨b13, 2, none⟩ = some (.int .i64 (tt : Int)) := HS12.out.cell 2
  have s3 : w12.cell? ⟨b13, 3, none⟩ = some (.int .i64 (V : Int)) := HS12.out.cell 3
  have q0 : w12.cell? ⟨b15, 0, none⟩ = some (.int .i64 (Q : Int)) := HT12.out.cell 0
  have q1 : w12.cell? ⟨b15, 1, none⟩ = some (.int .i64 (yw : Int)) := HT12.out.cell 1
  have q2 : w12.cell? ⟨b15, 2, none⟩ = some (.int .i64 (tt : Int)) := HT12.out.cell 2
  have q3 : w12.cell? ⟨b15, 3, none⟩ = some (.int .i64 (V : Int)) := HT12.out.cell 3
  have x0 : w12.cell? ⟨bt, 0, none⟩ = some (.int .i64 y.k) := HX12.out.cell 0
  have HMA := Lib.hid (fun W => show Calls Tryz.prog 14 #[.slice A1 n1 c1, .agg #[.int .i64 (P : Int), .int .i64 (yw : Int), .int .i64 (tt : Int), .int .i64 (V : Int)]] W fun e w' => e = .returned (.int .i64 0) ∧ Below W.heap.size W w' by
    have h := may_spec A1 n1 c1 (P : Int) (yw : Int) (tt : Int) (V : Int) W (by omega)
    rw [← HI12.out.1, HMY.out] at h
    rw [← HI12.out.1]
    exact h)
  have HKI := Lib.hid (fun W => show Calls Tryz.prog 15 #[.agg #[.int .i64 (P : Int), .int .i64 (yw : Int), .int .i64 (tt : Int), .int .i64 (V : Int)]] W fun e w' => e = .returned (.int .i64 y.k) ∧ Below W.heap.size W w' by
    have h := kind_spec (P : Int) (yw : Int) (tt : Int) (V : Int) W
    rw [HKD.out, HY5.out.1] at h
    exact h)
  have HBX := Lib.hid (show Below w12.heap.size w12 w12.drew from (Below.refl _ _).drew)
  go_region_held3 (fun w' => w'.cell? ⟨b11, 0, none⟩ = some (.int .i64 (P : Int)) ∧ w'.cell? ⟨b11, 1, none⟩ = some (.int .i64 (yw : Int)) ∧ w'.cell? ⟨b11, 2, none⟩ = some (.int .i64 (tt : Int)) ∧ w'.cell? ⟨b11, 3, none⟩ = some (.int .i64 (V : Int)) ∧ w'.cell? ⟨b13, 0, none⟩ = some (.int .i64 (Q : Int)) ∧ w'.cell? ⟨b13, 1, none⟩ = some (.int .i64 (yw : Int)) ∧ w'.cell? ⟨b13, 2, none⟩ = some (.int .i64 (tt : Int)) ∧ w'.cell? ⟨b13, 3, none⟩ = some (.int .i64 (V : Int)) ∧ w'.cell? ⟨b15, 0, none⟩ = some (.int .i64 (Q : Int)) ∧ w'.cell? ⟨b15, 1, none⟩ = some (.int .i64 (yw : Int)) ∧ w'.cell? ⟨b15, 2, none⟩ = some (.int .i64 (tt : Int)) ∧ w'.cell? ⟨b15, 3, none⟩ = some (.int .i64 (V : Int)) ∧ w'.cell? ⟨bt, 0, none⟩ = some (.int .i64 y.k))
    (first | with_reducible exact ⟨r0, r1, r2, r3, s0, s1, s2, s3, q0, q1, q2, q3, x0⟩ | with_reducible exact ⟨kdrew r0, kdrew r1, kdrew r2, kdrew r3, kdrew s0, kdrew s1, kdrew s2, kdrew s3, kdrew q0, kdrew q1, kdrew q2, kdrew q3, kdrew x0⟩ | with_reducible exact ⟨mr0, mr1, mr2, mr3, ms0, ms1, ms2, ms3, mq0, mq1, mq2, mq3, mx0⟩ | with_reducible exact ⟨kr0, kr1, kr2, kr3, ks0, ks1, ks2, ks3, kq0, kq1, kq2, kq3, kx0⟩)
    (first
      | (go_at_call 14; (with_reducible refine (HMA.out _).mono ?_); rintro e w13 ⟨rfl, hb⟩; have hb' := pure_below HBX.out hb; have HBM := Lib.hid hb'; have mr0 := cell_pure hb' r0; have mr1 := cell_pure hb' r1; have mr2 := cell_pure hb' r2; have mr3 := cell_pure hb' r3; have ms0 := cell_pure hb' s0; have ms1 := cell_pure hb' s1; have ms2 := cell_pure hb' s2; have ms3 := cell_pure hb' s3; have mq0 := cell_pure hb' q0; have mq1 := cell_pure hb' q1; have mq2 := cell_pure hb' q2; have mq3 := cell_pure hb' q3; have mx0 := cell_pure hb' x0; clear hb hb')
      | (go_at_call 15; (with_reducible refine (HKI.out _).mono ?_); rintro e w14 ⟨rfl, hb⟩; have hb' := pure_below HBM.out hb; have HBK := Lib.hid hb'; have kr0 := cell_pure hb' r0; have kr1 := cell_pure hb' r1; have kr2 := cell_pure hb' r2; have kr3 := cell_pure hb' r3; have ks0 := cell_pure hb' s0; have ks1 := cell_pure hb' s1; have ks2 := cell_pure hb' s2; have ks3 := cell_pure hb' s3; have kq0 := cell_pure hb' q0; have kq1 := cell_pure hb' q1; have kq2 := cell_pure hb' q2; have kq3 := cell_pure hb' q3; have kx0 := cell_pure hb' x0; clear hb hb'))
  clear r0 r1 r2 r3 s0 s1 s2 s3 q0 q1 q2 q3 x0 mr0 mr1 mr2 mr3 ms0 ms1 ms2 ms3 mq0 mq1 mq2 mq3 mx0
  have HI14 := Lib.hid (HI12.out.pure HBK.out)
  have HO14 := Lib.hid (HO12.out.is.pure HBK.out)
  have HR14 := Lib.hid (HR12.out.pure HBK.out)
  have HS14 := Lib.hid (HS12.out.pure HBK.out)
  have HB14 := Lib.hid (pure_below HB12.out HBK.out)
  have hT0 := HTG.out []
  have hTN := HTG.out (List.replicate N 0)
  simp only [List.nil_append, List.length_nil, Nat.zero_add, List.length_replicate] at hT0 hTN
  rw [HQ.out] at hTN
  clear kr0 kr1 kr2 kr3 ks0 ks1 ks2 ks3 kq0 kq1 kq2 kq3 kx0 HBX HBM HBK HI12 HO12 HX12 HR12 HS12 HT12 HB12 HMA HKI
  have HTB := Lib.hid (fun W (h : IsB W A1 n1 d) => target_spec A1 n1 c1 (P : Int) (yw : Int) (tt : Int) (V : Int) d W h HC1.out (by omega))
  have HTC := Lib.hid (fun W (h : IsB W A2 (N + n1) (List.replicate N 0 ++ d)) => target_spec A2 (N + n1) c2 (Q : Int) (yw : Int) (tt : Int) (V : Int) (List.replicate N 0 ++ d) W h HC2.out (by omega))
  have HIN := Lib.hid (fun W => inline_spec (tt : Int) W)
  cases hin : inlineT (tt : Int) with
  | true =>
    obtain ⟨a1, a2⟩ := hT0.1 hin
    obtain ⟨a3, a4⟩ := hTN.1 hin
    rw [a1, a2] at HTB
    rw [a3, a4] at HTC
    rw [hin] at HIN
    clear a1 a2 a3 a4 hT0 hTN hin
    have r0 : w14.cell? ⟨b11, 0, none⟩ = some (.int .i64 (P : Int)) := HR14.out.cell 0
    have r1 : w14.cell? ⟨b11, 1, none⟩ = some (.int .i64 (yw : Int)) := HR14.out.cell 1
    have r2 : w14.cell? ⟨b11, 2, none⟩ = some (.int .i64 (tt : Int)) := HR14.out.cell 2
    have r3 : w14.cell? ⟨b11, 3, none⟩ = some (.int .i64 (V : Int)) := HR14.out.cell 3
    go_wp2_with fail
    go_at_call 16
    refine (HTB.out _ HI14.out).mono ?_
    rintro e w15 ⟨rfl, hb⟩
    have HO15 := Lib.hid (HO14.out.pure hb)
    have HR15 := Lib.hid (HR14.out.pure hb)
    have HS15 := Lib.hid (HS14.out.pure hb)
    have HB15 := Lib.hid (pure_below HB14.out hb)
    clear hb r0 r1 r2 r3
    have s0 : w15.cell? ⟨b13, 0, none⟩ = some (.int .i64 (Q : Int)) := HS15.out.cell 0
    have s1 : w15.cell? ⟨b13, 1, none⟩ = some (.int .i64 (yw : Int)) := HS15.out.cell 1
    have s2 : w15.cell? ⟨b13, 2, none⟩ = some (.int .i64 (tt : Int)) := HS15.out.cell 2
    have s3 : w15.cell? ⟨b13, 3, none⟩ = some (.int .i64 (V : Int)) := HS15.out.cell 3
    go_wp2_with fail
    go_at_call 16
    refine (HTC.out _ HO15.out).mono ?_
    rintro e w16 ⟨rfl, hb⟩
    have HR16 := Lib.hid (HR15.out.pure hb)
    have HB16 := Lib.hid (pure_below HB15.out hb)
    clear hb s0 s1 s2 s3
    have r0 : w16.cell? ⟨b11, 0, none⟩ = some (.int .i64 (P : Int)) := HR16.out.cell 0
    have r2 : w16.cell? ⟨b11, 2, none⟩ = some (.int .i64 (tt : Int)) := HR16.out.cell 2
    go_wp2_with fail
    go_at_call 17
    refine (HIN.out _).mono ?_
    rintro e w17 ⟨rfl, hb⟩
    have HB17 := Lib.hid (pure_below HB16.out hb)
    have r0' : w17.cell? ⟨b11, 0, none⟩ = some (.int .i64 (P : Int)) := (HR16.out.pure hb).cell 0
    clear hb r0 r2
    go_wp2_with fail
    go_ret
    exact ⟨rfl, HB17.out⟩
  | false =>
    obtain ⟨a1, a2, a5⟩ := hT0.2 hin
    obtain ⟨a3, a4, _⟩ := hTN.2 hin
    rw [a1, a2] at HTB
    rw [a3, a4] at HTC
    rw [hin] at HIN
    have hv1 : (vn : Int) ≤ (P : Int) := by omega
    have hv0 : (0 : Int) ≤ (vn : Int) := by omega
    have hvN : (vn : Int) + (N : Int) = (N : Int) + (vn : Int) := Int.add_comm _ _
    have HVN := Lib.hid hvN
    clear a1 a2 a3 a4 hT0 hTN hin a5 hvN
    have r0 : w14.cell? ⟨b11, 0, none⟩ = some (.int .i64 (P : Int)) := HR14.out.cell 0
    have r1 : w14.cell? ⟨b11, 1, none⟩ = some (.int .i64 (yw : Int)) := HR14.out.cell 1
    have r2 : w14.cell? ⟨b11, 2, none⟩ = some (.int .i64 (tt : Int)) := HR14.out.cell 2
    have r3 : w14.cell? ⟨b11, 3, none⟩ = some (.int .i64 (V : Int)) := HR14.out.cell 3
    go_wp2_with fail
    go_at_call 16
    refine (HTB.out _ HI14.out).mono ?_
    rintro e w15 ⟨rfl, hb⟩
    have HO15 := Lib.hid (HO14.out.pure hb)
    have HR15 := Lib.hid (HR14.out.pure hb)
    have HS15 := Lib.hid (HS14.out.pure hb)
    have HB15 := Lib.hid (pure_below HB14.out hb)
    clear hb r0 r1 r2 r3
    have s0 : w15.cell? ⟨b13, 0, none⟩ = some (.int .i64 (Q : Int)) := HS15.out.cell 0
    have s1 : w15.cell? ⟨b13, 1, none⟩ = some (.int .i64 (yw : Int)) := HS15.out.cell 1
    have s2 : w15.cell? ⟨b13, 2, none⟩ = some (.int .i64 (tt : Int)) := HS15.out.cell 2
    have s3 : w15.cell? ⟨b13, 3, none⟩ = some (.int .i64 (V : Int)) := HS15.out.cell 3
    go_wp2_with fail
    go_at_call 16
    refine (HTC.out _ HO15.out).mono ?_
    rintro e w16 ⟨rfl, hb⟩
    have HR16 := Lib.hid (HR15.out.pure hb)
    have HB16 := Lib.hid (pure_below HB15.out hb)
    clear hb s0 s1 s2 s3
    have r0 : w16.cell? ⟨b11, 0, none⟩ = some (.int .i64 (P : Int)) := HR16.out.cell 0
    have r2 : w16.cell? ⟨b11, 2, none⟩ = some (.int .i64 (tt : Int)) := HR16.out.cell 2
    go_wp2_with fail
    go_at_call 17
    refine (HIN.out _).mono ?_
    rintro e w17 ⟨rfl, hb⟩
    have HB17 := Lib.hid (pure_below HB16.out hb)
    have r0' : w17.cell? ⟨b11, 0, none⟩ = some (.int .i64 (P : Int)) := (HR16.out.pure hb).cell 0
    clear hb r0 r2
    go_wp2_with fail
    go_ret
    exact ⟨ret_bool (beq_iff_eq.mpr HVN.out.symm), HB17.out⟩
end Go.Proofs.YtfoifdoaleaekaaGreat
