/-
  ListHolds, the walk.
  ListHolds: for every tree, all flags and bytes ahead, a vector or a map in a built document has an element of the right kind for each child of its node. No conditions.
-/
import Derived.Test.YtfoifdoaleaekaaGreatQe45
import Derived.Test.YtfoifdoaleaekaaGreatQe46
namespace Go.Proofs.YtfoifdoaleaekaaGreat
open Go.RowKit Go.Acc
theorem leaff_spec (k : Int) (w : World) : Calls Tryz.prog 20 #[.int .i64 k] w fun e w' => e = .returned (.bool (decide (1 ≤ k ∧ k ≤ 9))) ∧ w = w' := by
  by_cases h1 : 1 ≤ k
  · by_cases h2 : k ≤ 9
    · go_enter Tryz.func20, Tryz.ntmps20
      go_wp2
      go_ret
      exact ⟨ret_bool (by simp [h1]; omega), rfl⟩
    · go_enter Tryz.func20, Tryz.ntmps20
      go_wp2
      go_ret
      exact ⟨ret_bool (by simp; omega), rfl⟩
  · go_enter Tryz.func20, Tryz.ntmps20
    go_wp2
    go_ret
    exact ⟨ret_bool (by simp; omega), rfl⟩
set_option maxRecDepth 100000 in
set_option maxHeartbeats 4000000 in
theorem lholds_er (x : Nv) (T : Tr) (fl ah er : Int) (w : World) (hC : ∀ W, Below w.heap.size w W → Calls Tryz.prog 9 #[.agg #[.int .i64 x.k, .int .i64 x.n, .int .u64 (x.u : Int), .string ⟨x.s.toArray⟩, .slice x.A x.an x.ac, .slice x.B x.bn x.bc], .int .i64 80, .int .i64 60] W (TreeW W T)) (hc : T.cost ≤ 1000000) (he : (chk ers 0 T 0).1 = er) (hne : er ≠ 0) :
    Calls Tryz.prog 4 #[.agg #[.int .i64 x.k, .int .i64 x.n, .int .u64 (x.u : Int), .string ⟨x.s.toArray⟩, .slice x.A x.an x.ac, .slice x.B x.bn x.bc], .int .i64 fl, .int .i64 ah] w fun e w' => e = .returned (.bool true) ∧ Below w.heap.size w w' := by
  have HCUT := Lib.hid hC
  have HCO := Lib.hid hc
  have HE := Lib.hid (And.intro he hne)
  have hb1 : (er != 0) = true := by simpa using hne
  clear hC hc he hne
  have HB0 := Lib.hid (show Below w.heap.size w (w.alloc (.cells #[.int .i64 x.k, .int .i64 x.n, .int .u64 (x.u : Int), .string ⟨x.s.toArray⟩, .slice x.A x.an x.ac, .slice x.B x.bn x.bc] 26)) from (Below.refl _ _).alloc (Nat.le_refl _) _)
  have HX0 := Lib.hid (Blk.new w 26 #[.int .i64 x.k, .int .i64 x.n, .int .u64 (x.u : Int), .string ⟨x.s.toArray⟩, .slice x.A x.an x.ac, .slice x.B x.bn x.bc])
  go_enter Tryz.func4, Tryz.ntmps4
  go_upto_region 1 with fail
  generalize w.alloc (.cells #[.int .i64 x.k, .int .i64 x.n, .int .u64 (x.u : Int), .string ⟨x.s.toArray⟩, .slice x.A x.an x.ac, .slice x.B x.bn x.bc] 26) = w1 at HB0 HX0 ⊢
  generalize hbt : w.heap.size = bt at HX0 ⊢
  have HT := Lib.hid hbt
  clear hbt
  go_wp2_with fail
  go_at_call 18
  refine (liworks_spec _).mono ?_
  rintro e w2 ⟨rfl, hb⟩
  have HB1 := Lib.hid (pure_below HB0.out hb)
  have HX1 := Lib.hid (HX0.out.pure hb)
  have HC1 := Lib.hid (HCUT.out w2 HB1.out)
  clear hb HB0 HX0
  have x0 : w2.cell? ⟨bt, 0, none⟩ = some (.int .i64 x.k) := HX1.out.cell 0
  have x1 : w2.cell? ⟨bt, 1, none⟩ = some (.int .i64 x.n) := HX1.out.cell 1
  have x2 : w2.cell? ⟨bt, 2, none⟩ = some (.int .u64 (x.u : Int)) := HX1.out.cell 2
  have x3 : w2.cell? ⟨bt, 3, none⟩ = some (.string ⟨x.s.toArray⟩) := HX1.out.cell 3
  have x4 : w2.cell? ⟨bt, 4, none⟩ = some (.slice x.A x.an x.ac) := HX1.out.cell 4
  have x5 : w2.cell? ⟨bt, 5, none⟩ = some (.slice x.B x.bn x.bc) := HX1.out.cell 5
  go_wp2_with fail
  go_at_call 9
  refine HC1.out.mono ?_
  rintro e w3 ⟨y, rfl, hN3, hb3⟩
  have HN3 := Lib.hid hN3
  have HB3 := Lib.hid (pure_below HB1.out hb3)
  have HX3 := Lib.hid (HX1.out.pure hb3)
  have HS3 := Lib.hid (show bt < w2.heap.size from HX1.out.lt)
  clear hN3 hb3 x0 x1 x2 x3 x4 x5
  have x0 : w3.cell? ⟨bt, 0, none⟩ = some (.int .i64 x.k) := HX3.out.cell 0
  have x1 : w3.cell? ⟨bt, 1, none⟩ = some (.int .i64 x.n) := HX3.out.cell 1
  have x2 : w3.cell? ⟨bt, 2, none⟩ = some (.int .u64 (x.u : Int)) := HX3.out.cell 2
  have x3 : w3.cell? ⟨bt, 3, none⟩ = some (.string ⟨x.s.toArray⟩) := HX3.out.cell 3
  have x4 : w3.cell? ⟨bt, 4, none⟩ = some (.slice x.A x.an x.ac) := HX3.out.cell 4
  have x5 : w3.cell? ⟨bt, 5, none⟩ = some (.slice x.B x.bn x.bc) := HX3.out.cell 5
  have hfz : ∀ j, w3.frozen? ⟨bt, j, none⟩ = false := fun j => HX3.out.frozen j
  have f0 := hfz 0
  have f1 := hfz 1
  have f2 := hfz 2
  have f3 := hfz 3
  have f4 := hfz 4
  have f5 := hfz 5
  clear hfz
  go_upto_region 4 with fail
  have hF4 := fr_set6 w3 bt (.int .i64 y.k) (.int .i64 y.n) (.int .u64 (y.u : Int)) (.string ⟨y.s.toArray⟩) (.slice y.A y.an y.ac) (.slice y.B y.bn y.bc)
  have HX4 := Lib.hid (show Blk (((((((w3.setCell ⟨bt, 0, none⟩ (.int .i64 y.k)).setCell ⟨bt, 1, none⟩ (.int .i64 y.n)).setCell ⟨bt, 2, none⟩ (.int .u64 (y.u : Int))).setCell ⟨bt, 3, none⟩ (.string ⟨y.s.toArray⟩)).setCell ⟨bt, 4, none⟩ (.slice y.A y.an y.ac)).setCell ⟨bt, 5, none⟩ (.slice y.B y.bn y.bc))) bt 26 #[.int .i64 y.k, .int .i64 y.n, .int .u64 (y.u : Int), .string ⟨y.s.toArray⟩, .slice y.A y.an y.ac, .slice y.B y.bn y.bc] from (((((HX3.out.set_ 0 _).set_ 1 _).set_ 2 _).set_ 3 _).set_ 4 _).set_ 5 _)
  generalize ((((((w3.setCell ⟨bt, 0, none⟩ (.int .i64 y.k)).setCell ⟨bt, 1, none⟩ (.int .i64 y.n)).setCell ⟨bt, 2, none⟩ (.int .u64 (y.u : Int))).setCell ⟨bt, 3, none⟩ (.string ⟨y.s.toArray⟩)).setCell ⟨bt, 4, none⟩ (.slice y.A y.an y.ac)).setCell ⟨bt, 5, none⟩ (.slice y.B y.bn y.bc)) = w4 at hF4 HX4 ⊢
  have hs3 := HS3.out
  have hs4 := hF4.size
  have hbt := HT.out
  have HN4 := Lib.hid (show NodeR w4 (fun b => b < w4.heap.size) y T from (HN3.out.keep fun a u hc hp => cell_fr hF4 hc (by omega)).mono fun b hb => by omega)
  have HB4 := Lib.hid (below_fr HB3.out hF4 (by rintro j rfl; exact Nat.le_of_eq hbt))
  clear hF4 hs3 hs4 hbt x0 x1 x2 x3 x4 x5 f0 f1 f2 f3 f4 f5 HX3 HB3 HN3
  have x0 : w4.cell? ⟨bt, 0, none⟩ = some (.int .i64 y.k) := HX4.out.cell 0
  have x1 : w4.cell? ⟨bt, 1, none⟩ = some (.int .i64 y.n) := HX4.out.cell 1
  have x2 : w4.cell? ⟨bt, 2, none⟩ = some (.int .u64 (y.u : Int)) := HX4.out.cell 2
  have x3 : w4.cell? ⟨bt, 3, none⟩ = some (.string ⟨y.s.toArray⟩) := HX4.out.cell 3
  have x4 : w4.cell? ⟨bt, 4, none⟩ = some (.slice y.A y.an y.ac) := HX4.out.cell 4
  have x5 : w4.cell? ⟨bt, 5, none⟩ = some (.slice y.B y.bn y.bc) := HX4.out.cell 5
  have HBD := Lib.hid (build_er fl HN4.out (fun k hk => hk) HCO.out HE.out.1 HE.out.2)
  go_wp2_with fail
  go_at_call 10
  refine HBD.out.mono ?_
  rintro e w5 ⟨rfl, hb⟩
  have HB5 := Lib.hid (pure_below HB4.out hb)
  have HX5 := Lib.hid (HX4.out.pure hb)
  have HCH := Lib.hid (check_spec (HN4.out.pure hb) (fun k hk => Nat.lt_of_lt_of_le hk hb.size) (fun y hy s hs => by have := pre_keys T 0 y hy s hs; have := HCO.out; omega) (by have := pre_cost T 0; have := HCO.out; omega))
  rw [HE.out.1] at HCH
  clear hb x0 x1 x2 x3 x4 x5
  have x0 : w5.cell? ⟨bt, 0, none⟩ = some (.int .i64 y.k) := HX5.out.cell 0
  have x1 : w5.cell? ⟨bt, 1, none⟩ = some (.int .i64 y.n) := HX5.out.cell 1
  have x2 : w5.cell? ⟨bt, 2, none⟩ = some (.int .u64 (y.u : Int)) := HX5.out.cell 2
  have x3 : w5.cell? ⟨bt, 3, none⟩ = some (.string ⟨y.s.toArray⟩) := HX5.out.cell 3
  have x4 : w5.cell? ⟨bt, 4, none⟩ = some (.slice y.A y.an y.ac) := HX5.out.cell 4
  have x5 : w5.cell? ⟨bt, 5, none⟩ = some (.slice y.B y.bn y.bc) := HX5.out.cell 5
  go_wp2_with fail
  go_at_call 11
  refine HCH.out.mono ?_
  rintro e w6 ⟨rfl, hb⟩
  have HB6 := Lib.hid (pure_below HB5.out hb)
  clear hb
  go_wp2_with fail
  go_ret
  exact ⟨rfl, HB6.out⟩
set_option maxRecDepth 100000 in
set_option maxHeartbeats 8000000 in
theorem lholds_ok (x : Nv) (T : Tr) (fl ah : Int) (w : World) (hC : ∀ W, Below w.heap.size w W → Calls Tryz.prog 9 #[.agg #[.int .i64 x.k, .int .i64 x.n, .int .u64 (x.u : Int), .string ⟨x.s.toArray⟩, .slice x.A x.an x.ac, .slice x.B x.bn x.bc], .int .i64 80, .int .i64 60] W (TreeW W T)) (hN : NumT T) (hc : T.cost ≤ 65000) (he : (chk ers 0 T 0).1 = 0) :
    Calls Tryz.prog 4 #[.agg #[.int .i64 x.k, .int .i64 x.n, .int .u64 (x.u : Int), .string ⟨x.s.toArray⟩, .slice x.A x.an x.ac, .slice x.B x.bn x.bc], .int .i64 fl, .int .i64 ah] w fun e w' => e = .returned (.bool true) ∧ Below w.heap.size w w' := by
  have hv := chk_val ers_ok T 0 0 he
  obtain ⟨b, v, yw, ed, hrep, hyw, hfit, hlw, hleg, hvw, hkd, hbl⟩ := doc_all (Go.Proofs.YtfoifdoaleaekaaGreat.bits fl) hv hc
  have HCUT := Lib.hid hC
  have HCO := Lib.hid (And.intro hc he)
  have HNT := Lib.hid hN
  have HRC := Lib.hid (fun (N : Nat) (hN8 : N % 8 = 0) => root_doc (x := List.replicate N 0) (b := b) (v := v) (w := yw) (by simpa using hN8) hyw hleg hvw)
  have HDC := Lib.hid (fun (N : Nat) (hN8 : N % 8 = 0) => doc_lists hv hrep hyw hleg hvw hbl hfit (List.replicate N 0) (by simpa using hN8))
  have HK1 := Lib.hid (show 1 ≤ T.k ∧ (10 ≤ T.k ∨ T.k ≤ 9) by
    refine ⟨?_, by omega⟩
    cases hv with
    | mk h1 _ _ _ _ =>
      simp only [suchT, Bool.and_eq_true, decide_eq_true_eq] at h1
      obtain ⟨⟨⟨⟨⟨⟨⟨⟨⟨g1, _⟩, _⟩, _⟩, _⟩, _⟩, _⟩, _⟩, _⟩, _⟩ := h1
      exact g1)
  have hdl : (docB b v yw).length ≤ 65040 := by
    have h1 := bdoc_len [] b v yw
    have h2 := alignB_le8 b (isW_nat.2 (isW_nat.1 hyw))
    have h3 : yw ≤ 8 := by rcases isW_nat.1 hyw with h | h | h | h <;> omega
    simp only [List.nil_append, List.length_nil] at h1
    omega
  obtain ⟨P, hP⟩ : ∃ P, (alignB yw b).length = P := ⟨_, rfl⟩
  obtain ⟨d, hd⟩ : ∃ d, docB b v yw = d := ⟨_, rfl⟩
  obtain ⟨tt, htt⟩ : ∃ tt, v.t = tt := ⟨_, rfl⟩
  obtain ⟨V, hV⟩ : ∃ V, ownW yw v = V := ⟨_, rfl⟩
  rw [hd] at ed hdl
  simp only [hd, hP, htt, hV, List.length_replicate] at HRC HDC
  have hPd : P ≤ 65040 := by
    have h2 := alignB_le8 b (isW_nat.2 (isW_nat.1 hyw))
    omega
  have HED := Lib.hid ed
  have HDL := Lib.hid hdl
  have HPD := Lib.hid hPd
  clear hrep hlw hC hc he hN ed hyw hfit hleg hvw hkd hbl hdl hP hd htt hV hPd hv
  have HB0 := Lib.hid (show Below w.heap.size w (w.alloc (.cells #[.int .i64 x.k, .int .i64 x.n, .int .u64 (x.u : Int), .string ⟨x.s.toArray⟩, .slice x.A x.an x.ac, .slice x.B x.bn x.bc] 26)) from (Below.refl _ _).alloc (Nat.le_refl _) _)
  have HX0 := Lib.hid (Blk.new w 26 #[.int .i64 x.k, .int .i64 x.n, .int .u64 (x.u : Int), .string ⟨x.s.toArray⟩, .slice x.A x.an x.ac, .slice x.B x.bn x.bc])
  go_enter Tryz.func4, Tryz.ntmps4
  go_upto_region 1 with fail
  generalize w.alloc (.cells #[.int .i64 x.k, .int .i64 x.n, .int .u64 (x.u : Int), .string ⟨x.s.toArray⟩, .slice x.A x.an x.ac, .slice x.B x.bn x.bc] 26) = w1 at HB0 HX0 ⊢
  generalize hbt : w.heap.size = bt at HX0 ⊢
  have HT := Lib.hid hbt
  clear hbt
  go_wp2_with fail
  go_at_call 18
  refine (liworks_spec _).mono ?_
  rintro e w2 ⟨rfl, hb⟩
  have HB1 := Lib.hid (pure_below HB0.out hb)
  have HX1 := Lib.hid (HX0.out.pure hb)
  have HC1 := Lib.hid (HCUT.out w2 HB1.out)
  clear hb HB0 HX0
  have x0 : w2.cell? ⟨bt, 0, none⟩ = some (.int .i64 x.k) := HX1.out.cell 0
  have x1 : w2.cell? ⟨bt, 1, none⟩ = some (.int .i64 x.n) := HX1.out.cell 1
  have x2 : w2.cell? ⟨bt, 2, none⟩ = some (.int .u64 (x.u : Int)) := HX1.out.cell 2
  have x3 : w2.cell? ⟨bt, 3, none⟩ = some (.string ⟨x.s.toArray⟩) := HX1.out.cell 3
  have x4 : w2.cell? ⟨bt, 4, none⟩ = some (.slice x.A x.an x.ac) := HX1.out.cell 4
  have x5 : w2.cell? ⟨bt, 5, none⟩ = some (.slice x.B x.bn x.bc) := HX1.out.cell 5
  go_wp2_with fail
  go_at_call 9
  refine HC1.out.mono ?_
  rintro e w3 ⟨y, rfl, hN3, hb3⟩
  have HN3 := Lib.hid hN3
  have HB3 := Lib.hid (pure_below HB1.out hb3)
  have HX3 := Lib.hid (HX1.out.pure hb3)
  have HS3 := Lib.hid (show bt < w2.heap.size from HX1.out.lt)
  clear hN3 hb3 x0 x1 x2 x3 x4 x5
  have x0 : w3.cell? ⟨bt, 0, none⟩ = some (.int .i64 x.k) := HX3.out.cell 0
  have x1 : w3.cell? ⟨bt, 1, none⟩ = some (.int .i64 x.n) := HX3.out.cell 1
  have x2 : w3.cell? ⟨bt, 2, none⟩ = some (.int .u64 (x.u : Int)) := HX3.out.cell 2
  have x3 : w3.cell? ⟨bt, 3, none⟩ = some (.string ⟨x.s.toArray⟩) := HX3.out.cell 3
  have x4 : w3.cell? ⟨bt, 4, none⟩ = some (.slice x.A x.an x.ac) := HX3.out.cell 4
  have x5 : w3.cell? ⟨bt, 5, none⟩ = some (.slice x.B x.bn x.bc) := HX3.out.cell 5
  have hfz : ∀ j, w3.frozen? ⟨bt, j, none⟩ = false := fun j => HX3.out.frozen j
  have f0 := hfz 0
  have f1 := hfz 1
  have f2 := hfz 2
  have f3 := hfz 3
  have f4 := hfz 4
  have f5 := hfz 5
  clear hfz
  go_upto_region 4 with fail
  have hF4 := fr_set6 w3 bt (.int .i64 y.k) (.int .i64 y.n) (.int .u64 (y.u : Int)) (.string ⟨y.s.toArray⟩) (.slice y.A y.an y.ac) (.slice y.B y.bn y.bc)
  have HX4 := Lib.hid (show Blk (((((((w3.setCell ⟨bt, 0, none⟩ (.int .i64 y.k)).setCell ⟨bt, 1, none⟩ (.int .i64 y.n)).setCell ⟨bt, 2, none⟩ (.int .u64 (y.u : Int))).setCell ⟨bt, 3, none⟩ (.string ⟨y.s.toArray⟩)).setCell ⟨bt, 4, none⟩ (.slice y.A y.an y.ac)).setCell ⟨bt, 5, none⟩ (.slice y.B y.bn y.bc))) bt 26 #[.int .i64 y.k, .int .i64 y.n, .int .u64 (y.u : Int), .string ⟨y.s.toArray⟩, .slice y.A y.an y.ac, .slice y.B y.bn y.bc] from (((((HX3.out.set_ 0 _).set_ 1 _).set_ 2 _).set_ 3 _).set_ 4 _).set_ 5 _)
  generalize ((((((w3.setCell ⟨bt, 0, none⟩ (.int .i64 y.k)).setCell ⟨bt, 1, none⟩ (.int .i64 y.n)).setCell ⟨bt, 2, none⟩ (.int .u64 (y.u : Int))).setCell ⟨bt, 3, none⟩ (.string ⟨y.s.toArray⟩)).setCell ⟨bt, 4, none⟩ (.slice y.A y.an y.ac)).setCell ⟨bt, 5, none⟩ (.slice y.B y.bn y.bc)) = w4 at hF4 HX4 ⊢
  have hs3 := HS3.out
  have hs4 := hF4.size
  have hbt := HT.out
  have HN4 := Lib.hid (show NodeR w4 (fun b => b < w4.heap.size) y T from (HN3.out.keep fun a u hc hp => cell_fr hF4 hc (by omega)).mono fun b hb => by omega)
  have HB4 := Lib.hid (below_fr HB3.out hF4 (by rintro j rfl; exact Nat.le_of_eq hbt))
  clear hF4 hs3 hs4 hbt x0 x1 x2 x3 x4 x5 f0 f1 f2 f3 f4 f5 HX3 HB3 HN3
  have x0 : w4.cell? ⟨bt, 0, none⟩ = some (.int .i64 y.k) := HX4.out.cell 0
  have x1 : w4.cell? ⟨bt, 1, none⟩ = some (.int .i64 y.n) := HX4.out.cell 1
  have x2 : w4.cell? ⟨bt, 2, none⟩ = some (.int .u64 (y.u : Int)) := HX4.out.cell 2
  have x3 : w4.cell? ⟨bt, 3, none⟩ = some (.string ⟨y.s.toArray⟩) := HX4.out.cell 3
  have x4 : w4.cell? ⟨bt, 4, none⟩ = some (.slice y.A y.an y.ac) := HX4.out.cell 4
  have x5 : w4.cell? ⟨bt, 5, none⟩ = some (.slice y.B y.bn y.bc) := HX4.out.cell 5
  have HBD := Lib.hid (build_ok fl HN4.out (fun k hk => hk) HNT.out HCO.out.1 HCO.out.2)
  rw [HED.out] at HBD
  go_wp2_with fail
  go_at_call 10
  refine HBD.out.mono ?_
  intro e w5 hDoc
  obtain ⟨A1, n1, c1, rfl, hO, hb⟩ := hDoc
  have HO := Lib.hid hO
  have HN1 := Lib.hid (show n1 ≤ 65040 by rw [← hO.1]; exact HDL.out)
  have HB5 := Lib.hid (pure_below HB4.out hb)
  have HX5 := Lib.hid (HX4.out.pure hb)
  have HY5 := Lib.hid (HN4.out.fields)
  have HSO := Lib.hid (sortedok_spec (HN4.out.pure hb) (fun k hk => Nat.lt_of_lt_of_le hk hb.size) (by have := HCO.out.1; omega) HCO.out.2)
  clear hb hO x0 x1 x2 x3 x4 x5 HBD HN4 HB4 HX4
  have x0 : w5.cell? ⟨bt, 0, none⟩ = some (.int .i64 y.k) := HX5.out.cell 0
  have x1 : w5.cell? ⟨bt, 1, none⟩ = some (.int .i64 y.n) := HX5.out.cell 1
  have x2 : w5.cell? ⟨bt, 2, none⟩ = some (.int .u64 (y.u : Int)) := HX5.out.cell 2
  have x3 : w5.cell? ⟨bt, 3, none⟩ = some (.string ⟨y.s.toArray⟩) := HX5.out.cell 3
  have x4 : w5.cell? ⟨bt, 4, none⟩ = some (.slice y.A y.an y.ac) := HX5.out.cell 4
  have x5 : w5.cell? ⟨bt, 5, none⟩ = some (.slice y.B y.bn y.bc) := HX5.out.cell 5
  go_wp2_with fail
  go_at_call 19
  refine HSO.out.mono ?_
  rintro e w6 ⟨z, rfl, hz, hb⟩
  have hal := (Below.refl w6.heap.size w6).alloc (Nat.le_refl _) (.cells #[.int .i64 z.k, .int .i64 z.n, .int .u64 (z.u : Int), .string ⟨z.s.toArray⟩, .slice z.A z.an z.ac, .slice z.B z.bn z.bc] 26)
  have hbb := pure_trans hb hal
  have HZ7 := Lib.hid (hz.pure hal)
  have HD7 := Lib.hid (HO.out.is.pure hbb)
  have HB7 := Lib.hid (pure_below HB5.out hbb)
  have HX7 := Lib.hid (HX5.out.pure hbb)
  have HS7 := Lib.hid (Blk.new w6 26 #[.int .i64 z.k, .int .i64 z.n, .int .u64 (z.u : Int), .string ⟨z.s.toArray⟩, .slice z.A z.an z.ac, .slice z.B z.bn z.bc])
  have HC1 := Lib.hid (show n1 ≤ c1 from HO.out.cap.1)
  clear hz hb hal hbb x0 x1 x2 x3 x4 x5 HSO HO HB5 HX5
  go_upto_region 8 with fail
  generalize w6.alloc (.cells #[.int .i64 z.k, .int .i64 z.n, .int .u64 (z.u : Int), .string ⟨z.s.toArray⟩, .slice z.A z.an z.ac, .slice z.B z.bn z.bc] 26) = w7 at HZ7 HD7 HB7 HX7 HS7 ⊢
  generalize w6.heap.size = b9 at HS7 ⊢
  obtain ⟨q, hq⟩ : ∃ q : Nat, ah % 4 = (q : Int) := ⟨(ah % 4).toNat, by omega⟩
  have hq4 : q < 4 := by omega
  obtain ⟨N, hN⟩ : ∃ N : Nat, 8 * q = N := ⟨_, rfl⟩
  have HN8 := Lib.hid (show N % 8 = 0 by omega)
  have HN32 := Lib.hid (show N ≤ 32 by omega)
  have e1 : 8 * (q : Int) = (N : Int) := by omega
  have e2 : wrap64 (N : Int) = (N : Int) := wrap64_in _ (by omega)
  have HBA := Lib.hid (show Calls Tryz.prog 12 #[.int .i64 ah, .int .i64 4] w7 fun e w' => e = .returned (.int .i64 (q : Int)) ∧ w7 = w' by rw [← hq]; exact bring_spec ah 4 w7 (by omega) (by omega))
  obtain ⟨Z, hZ1, hZ2, hmk⟩ := make_b N (by have := HN32.out; omega)
  have HO8 := Lib.hid (show OwnB (w7.alloc (.cells Z 5)) w7.heap.size (some ⟨w7.heap.size, 0, none⟩) N N (List.replicate N 0) from ownb_at Z N _ rfl (by simp) (by have := HN32.out; omega) hZ2)
  have HI8 := Lib.hid (show IsB (w7.alloc (.cells Z 5)) A1 n1 d from HD7.out.alloc (.cells Z 5))
  have HB8 := Lib.hid (show Below w7.heap.size w7 (w7.alloc (.cells Z 5)) from (Below.refl _ _).alloc (Nat.le_refl _) _)
  have hNn : N + n1 ≤ 70000 := by have h1 := HN32.out; have h2 := HN1.out; omega
  clear hq hq4 hN hZ1 hZ2
  go_wp2_with fail
  go_at_call 12
  refine HBA.out.mono ?_
  rintro e w' ⟨rfl, rfl⟩
  go_wp2_with (at_builtin; refine wpl_app _ rfl (.tmp 40) (.tmp 41) _ rfl 5 _ 1 1 Tryz.underlying29 info_b rfl (by omega) bc_len bc_one _ _ _ _ _ rfl HO8.out _ _ _ _ rfl HI8.out (by omega) HB8.out.size ?_; intro A2 c2 w8 hown hfr hat)
  have HO9 := Lib.hid hown
  have hbf := below_fr HB8.out hfr (by rintro j ⟨ad, e, rfl⟩; injection e with e; rw [← e]; exact Nat.le_refl _)
  have HB9 := Lib.hid (pure_below HB7.out hbf)
  have HX9 := Lib.hid (HX7.out.pure hbf)
  have HZ9 := Lib.hid (HZ7.out.pure hbf)
  have HS9 := Lib.hid (HS7.out.pure hbf)
  have HZL := Lib.hid (show w7.heap.size ≤ w8.heap.size from hbf.size)
  obtain ⟨Q, hQ⟩ : ∃ Q : Nat, N + P = Q := ⟨_, rfl⟩
  obtain ⟨g1, g2⟩ := HRC.out N HN8.out
  have g3 := HDC.out N HN8.out
  rw [hQ] at g2 g3
  have HRE := Lib.hid g1
  have HRR := Lib.hid g2
  have HDD := Lib.hid g3
  have hN32 := HN32.out
  have hPd := HPD.out
  have hQ9 : Q ≤ 70000 := by omega
  clear hown hfr hat hbf HB8 HI8 HO8 HB7 HX7 HZ7 HS7 hmk e1 e2 HBA g1 g2 g3 hQ HD7 HRC HDC
  refine (root_spec2 A2 (N + n1) c2 (List.replicate N 0 ++ d) _ _ _ _ _ 0 HO9.out.is (by omega) HRR.out HRE.out).mono ?_
  rintro e w9 ⟨rfl, hb⟩
  have hal := (Below.refl w9.heap.size w9).alloc (Nat.le_refl _) (.cells #[.int .i64 (Q : Int), .int .i64 (yw : Int), .int .i64 (tt : Int), .int .i64 (V : Int)] 36)
  have hbb := pure_trans hb hal
  have HI10 := Lib.hid (HO9.out.is.pure hbb)
  have HC2 := Lib.hid (show N + n1 ≤ c2 from HO9.out.cap.1)
  have HB10 := Lib.hid (pure_below HB9.out hbb)
  have HX10 := Lib.hid (HX9.out.pure hbb)
  have HZ10 := Lib.hid (HZ9.out.pure hbb)
  have HS10 := Lib.hid (HS9.out.pure hbb)
  have HR10 := Lib.hid (Blk.new w9 36 #[.int .i64 (Q : Int), .int .i64 (yw : Int), .int .i64 (tt : Int), .int .i64 (V : Int)])
  clear hb hal hbb HO9 HB9 HX9 HZ9 HS9
  go_upto_region 10 with fail
  generalize w9.alloc (.cells #[.int .i64 (Q : Int), .int .i64 (yw : Int), .int .i64 (tt : Int), .int .i64 (V : Int)] 36) = w10 at HI10 HB10 HX10 HZ10 HS10 HR10 ⊢
  generalize w9.heap.size = b11 at HR10 ⊢
  have x0 : w10.cell? ⟨bt, 0, none⟩ = some (.int .i64 y.k) := HX10.out.cell 0
  have x5 : w10.cell? ⟨bt, 5, none⟩ = some (.slice y.B y.bn y.bc) := HX10.out.cell 5
  have r0 := cell0 HR10.out
  have r1 := cell1 HR10.out
  have r2 := cell2 HR10.out
  have r3 := cell3 HR10.out
  go_wp2_with fail
  go_at_call 20
  refine (leaff_spec y.k _).mono ?_
  rintro e w' ⟨rfl, rfl⟩
  have hyk := HY5.out.1
  have hk1 := HK1.out
  rw [hyk] at hk1
  by_cases hlf : y.k ≤ 9
  · have hd : decide (1 ≤ y.k ∧ y.k ≤ 9) = true := decide_eq_true ⟨hk1.1, hlf⟩
    have hlf2 := HDD.out.leaf (by rw [hyk]; exact hlf)
    have HLF := Lib.hid hlf2
    have hl0 : ((lsLen (List.replicate N 0 ++ d) (Q : Int) (yw : Int) (tt : Int) (V : Int) : Nat) : Int) = 0 := by rw [hlf2.2]; rfl
    have HL0 := Lib.hid hl0
    rw [hd]
    clear hyk hk1 hlf hd hlf2 hl0
    go_wp2_with fail
    go_at_call 21
    refine (has_yes A2 (N + n1) c2 (Q : Int) (yw : Int) (tt : Int) (V : Int) 0 60 _ _ HI10.out HC2.out (by omega) HL0.out HLF.out.1).mono ?_
    rintro e w11 ⟨rfl, hb⟩
    have HB11 := Lib.hid (pure_below HB10.out hb)
    clear hb
    go_wp2_with fail
    go_ret
    exact ⟨rfl, HB11.out⟩
  · have hd : decide (1 ≤ y.k ∧ y.k ≤ 9) = false := decide_eq_false (by omega)
    obtain ⟨l1, l2, l3⟩ := HDD.out.list (by rw [hyk]; omega)
    have hyl : T.l.length = y.bn := HY5.out.2.2.2.2.2
    rw [hyl] at l2
    have HL1 := Lib.hid l1
    have HL2 := Lib.hid (show ((lsLen (List.replicate N 0 ++ d) (Q : Int) (yw : Int) (tt : Int) (V : Int) : Nat) : Int) = (y.bn : Int) by rw [l2])
    have HL3 := Lib.hid l3
    rw [hd]
    clear hyk hk1 hlf hd l1 l2 l3 hyl
    go_wp2_with fail
    go_at_call 21
    refine (has_yes A2 (N + n1) c2 (Q : Int) (yw : Int) (tt : Int) (V : Int) (y.bn : Int) 0 _ _ HI10.out HC2.out (by omega) HL2.out HL1.out).mono ?_
    rintro e w11 ⟨rfl, hb⟩
    have HI11 := Lib.hid (HI10.out.pure hb)
    have HB11 := Lib.hid (pure_below HB10.out hb)
    have HZ11 := Lib.hid (HZ10.out.pure hb)
    have HS11 := Lib.hid (HS10.out.pure hb)
    have HR11 := Lib.hid (HR10.out.pure hb)
    clear hb x0 x5 r0 r1 r2 r3 HI10 HB10 HX10 HZ10 HS10 HR10
    obtain ⟨ts, hts⟩ : ∃ ts, sortT T = ts := ⟨_, rfl⟩
    rw [hts] at HZ11 HL3
    have hz := HZ11.out
    cases hz with
    | @mk z ks l vs _ _ _ _ h2 _ _ hzb hl hcc =>
    have HV := Lib.hid h2
    have HVL := Lib.hid hl
    have HVN := Lib.hid (show vs.length = z.bn from h2.1)
    have HVK := Lib.hid (show ∀ (i : Nat) v t, vs[i]? = some v → l[i]? = some t → t.k = v.k from fun i v t hv ht => (hcc i v t hv ht).fields.1)
    have HLL := Lib.hid (show ∀ (i : Nat) c, l[i]? = some c → atE (List.replicate N 0 ++ d) (Q : Int) (yw : Int) (tt : Int) (V : Int) (i : Int) = 0 ∧ kindT (atT (List.replicate N 0 ++ d) (Q : Int) (yw : Int) (tt : Int) (V : Int) (i : Int)) = c.k from HL3.out)
    have hzn : z.bn ≤ 1099511627776 := hzb
    clear h2 hl hcc hzb HZ11 HL3 hts
    go_wp2_with fail
    go_loopw [13] (fun uu wr => ∃ k : Nat, k ≤ z.bn ∧ uu = .int .i64 (k : Int) ∧ Below w11.heap.size w11 wr) (fun uu _ => z.bn - (intOf uu).toNat)
    case atStart => exact ⟨0, Nat.zero_le _, rfl, Below.refl _ _⟩
    case round =>
      obtain ⟨k, hk, rfl, hbr⟩ := hrel
      have HBR := Lib.hid hbr
      have HIR := Lib.hid (HI11.out.pure hbr)
      have HSR := Lib.hid (HS11.out.pure hbr)
      have HRR2 := Lib.hid (HR11.out.pure hbr)
      have HVR := Lib.hid (HV.out.pure hbr)
      clear hbr
      have z5 : wr.cell? ⟨b9, 5, none⟩ = some (.slice z.B z.bn z.bc) := HSR.out.cell 5
      have r0 := cell0 HRR2.out
      have r1 := cell1 HRR2.out
      have r2 := cell2 HRR2.out
      have r3 := cell3 HRR2.out
      by_cases hlt : k < z.bn
      · obtain ⟨v', hv'⟩ : ∃ v', vs[k]? = some v' := ⟨_, List.getElem?_eq_getElem (by have := HVN.out; omega)⟩
        obtain ⟨t', ht'⟩ : ∃ t', l[k]? = some t' := ⟨_, List.getElem?_eq_getElem (by have := HVN.out; have := HVL.out; omega)⟩
        obtain ⟨gv, off, e, u0, _⟩ := isn_at HVR.out hv'
        obtain ⟨a1, a2⟩ := HLL.out k t' ht'
        rw [HVK.out k v' t' hv' ht'] at a2
        obtain ⟨aa, haa⟩ : ∃ a, atP (List.replicate N 0 ++ d) (Q : Int) (yw : Int) (tt : Int) (V : Int) (k : Int) = a := ⟨_, rfl⟩
        obtain ⟨ab, hab⟩ : ∃ a, atQ (List.replicate N 0 ++ d) (Q : Int) (yw : Int) (tt : Int) (V : Int) (k : Int) = a := ⟨_, rfl⟩
        obtain ⟨at', hat'⟩ : ∃ a, atT (List.replicate N 0 ++ d) (Q : Int) (yw : Int) (tt : Int) (V : Int) (k : Int) = a := ⟨_, rfl⟩
        obtain ⟨av, hav⟩ : ∃ a, atV (List.replicate N 0 ++ d) (Q : Int) (yw : Int) (tt : Int) (V : Int) (k : Int) = a := ⟨_, rfl⟩
        rw [hat'] at a2
        have HAT := Lib.hid (lat_is A2 (N + n1) c2 (Q : Int) (yw : Int) (tt : Int) (V : Int) (k : Int) aa ab at' av 0 _ wr HIR.out HC2.out (by omega) haa hab hat' hav a1)
        have HK2 := Lib.hid a2
        have hk0 : (0 : Int) ≤ (k : Int) := by omega
        have hkn : (k : Int) < (z.bn : Int) := by omega
        rw [e] at z5
        clear hv' ht' a1 a2 haa hab hat' hav e
        go_wp2_with fail
        go_at_call 22
        refine HAT.out.mono ?_
        rintro e w12 ⟨rfl, hb⟩
        have HR12 := Lib.hid (Blk.new w12 36 #[.int .i64 aa, .int .i64 ab, .int .i64 at', .int .i64 av])
        have hal := (Below.refl w12.heap.size w12).alloc (Nat.le_refl _) (.cells #[.int .i64 aa, .int .i64 ab, .int .i64 at', .int .i64 av] 36)
        have hbb := pure_trans hb hal
        have z5' := cell_pure hbb z5
        have u0' := cell_pure hbb u0
        have HB12 := Lib.hid (pure_below HBR.out hbb)
        clear hb hal hbb z5 u0 r0 r1 r2 r3
        go_upto_region 20 with fail
        generalize w12.alloc (.cells #[.int .i64 aa, .int .i64 ab, .int .i64 at', .int .i64 av] 36) = w13 at HR12 z5' u0' HB12 ⊢
        generalize w12.heap.size = b14 at HR12 ⊢
        have p0 := cell0 HR12.out
        have p1 := cell1 HR12.out
        have p2 := cell2 HR12.out
        have p3 := cell3 HR12.out
        have HKI := Lib.hid (fun W => show Calls Tryz.prog 15 #[.agg #[.int .i64 aa, .int .i64 ab, .int .i64 at', .int .i64 av]] W fun e w' => e = .returned (.int .i64 v'.k) ∧ Below W.heap.size W w' by
          have h := kind_spec aa ab at' av W
          rw [HK2.out] at h
          exact h)
        have hk0 : (0 : Int) ≤ (k : Int) := by omega
        have hkn : (k : Int) < (z.bn : Int) := by omega
        go_region_held3 (fun w' => w'.cell? ⟨b14, 0, none⟩ = some (.int .i64 aa) ∧ w'.cell? ⟨b14, 1, none⟩ = some (.int .i64 ab) ∧ w'.cell? ⟨b14, 2, none⟩ = some (.int .i64 at') ∧ w'.cell? ⟨b14, 3, none⟩ = some (.int .i64 av) ∧ w'.cell? ⟨b9, 5, none⟩ = some (.slice (some ⟨gv, off, none⟩) z.bn z.bc) ∧ w'.cell? ⟨gv, off + k * 6, none⟩ = some (.int .i64 v'.k))
          (first | with_reducible exact ⟨p0, p1, p2, p3, z5', u0'⟩ | with_reducible exact ⟨kdrew p0, kdrew p1, kdrew p2, kdrew p3, kdrew z5', kdrew u0'⟩ | with_reducible exact ⟨m0, m1, m2, m3, m4, m5⟩)
          (first
            | (go_at_call 15; (with_reducible refine (HKI.out _).mono ?_); rintro e w14 ⟨rfl, hb⟩; have m0 := cell_pure hb (kdrew p0); have m1 := cell_pure hb (kdrew p1); have m2 := cell_pure hb (kdrew p2); have m3 := cell_pure hb (kdrew p3); have m4 := cell_pure hb (kdrew z5'); have m5 := cell_pure hb (kdrew u0'); have HB14 := Lib.hid (pure_below (HB12.out.drew) hb); clear hb))
        clear p0 p1 p2 p3 z5' u0' m0 m1 m2 m3 m4 m5
        go_wp2_with fail
        go_roundw
        case rel => exact ⟨k + 1, by omega, by go_num, HB14.out⟩
        case measure => simp [intOf]; omega
      · have hkn : ¬ ((k : Int) < (z.bn : Int)) := by omega
        go_wp2_with fail
        go_ret
        exact ⟨rfl, pure_below HB11.out HBR.out⟩
end Go.Proofs.YtfoifdoaleaekaaGreat

namespace Go.Proofs.YtfoifdoaleaekaaGreat
open Go.RowKit Go.Acc Go.ChangeShapes Go.WideShapes Go.ChangeAt
theorem lholds_spec (x : Nv) (t : Tr) (fl ah : Int) (w : World) (h : NodeI w x t) (hN : NumT t) : Calls Tryz.prog 4 #[.agg #[.int .i64 x.k, .int .i64 x.n, .int .u64 (x.u : Int), .string ⟨x.s.toArray⟩, .slice x.A x.an x.ac, .slice x.B x.bn x.bc], .int .i64 fl, .int .i64 ah] w fun e w' => e = .returned (.bool true) ∧ Below w.heap.size w w' := by
  obtain ⟨T, hC, hT, hc, hv⟩ := cut_tree h hN
  by_cases he : (chk ers 0 T 0).1 = 0
  · exact lholds_ok x T fl ah w hC hT (hv (chk_val ers_ok T 0 0 he)) he
  · exact lholds_er x T fl ah _ w hC hc rfl he
set_option maxRecDepth 100000 in
theorem listHolds_run {H : Type} {enc : TypeId × Value → H} {v0 v1 v2 : Value} {d0 d1 d2 : DataW H} {p0 p1 p2 : List MemPlace} (W : World) (base : Nat) (k0 : Value.okWide Tryz.prog W .any base 26 v0) (k1 : Value.okWide Tryz.prog W .any base 3 v1) (k2 : Value.okWide Tryz.prog W .any base 3 v2)
    (h0 : DataW.Trod enc Tryz.prog W 0 (fun _ => true) true 26 v0 d0 p0) (h1 : DataW.Trod enc Tryz.prog W 0 (fun _ => true) true 3 v1 d1 p1) (h2 : DataW.Trod enc Tryz.prog W 0 (fun _ => true) true 3 v2 d2 p2) :
    Calls Tryz.prog 4 #[v0, v1, v2] W fun e w' => e = .returned (.bool true) ∧ Below W.heap.size W w' := by
  obtain ⟨x, t, rfl, hI, hN⟩ := node_arg k0 h0
  obtain ⟨fl, rfl, _⟩ := int_arg k1 h1
  obtain ⟨ah, rfl, _⟩ := int_arg k2 h2
  exact lholds_spec x t fl ah W hI hN

set_option maxRecDepth 100000 in
theorem listHolds_lifted (os : Os) (started : os.Started) (H : Type) (enc : TypeId × Value → H) :
    ReturnsInHanded {} Tryz.checked os 4 .any (Rows.listHoldsSpec.pre6 enc Tryz.prog Tryz.f4 Rows.listHoldsRow.domain false) (Rows.listHoldsSpec.post enc Tryz.prog Tryz.f4 false true false false) := by
  refine returnsInHanded_of_change (C := Tryz.checked) acc_own started (by kernel_rfl) Tryz.func4
    (ChangeSpec.witness6 (enc := enc) (C := Tryz.checked) false ⟨#[], #[.agg #[.int .i64 0, .int .i64 0, .int .u64 0, .string ⟨#[]⟩, .slice none 0 0, .slice none 0 0], .int .i64 0, .int .i64 0], []⟩ 8 (by kernel_rfl) (by kernel_rfl) (by kernel_rfl) (by kernel_rfl)) ?_
  intro W base args ds gs before hval0 hW hcnd _
  have hval : ∀ (j : Nat) t v, Tryz.f4.params[j]? = some t → args[j]? = some v → Value.okWide Tryz.prog W .any base t v := hval0
  have hW' := hW
  obtain ⟨p, q, hA0, hV, rfl, hfz, hnd⟩ := hW
  have hA : DataW.TrodAll enc Tryz.prog W 0 (fun _ => true) true Tryz.f4.params.toList args.toList ds p := hA0
  rw [Tryz.params4] at hA
  rw [Tryz.params4] at hval
  obtain ⟨v0, vs0, d0, ds0, p0, q0, hargs, rfl, rfl, h0, r0⟩ := trodAll_cons hA
  obtain ⟨v1, vs1, d1, ds1, p1, q1, rfl, rfl, rfl, h1, r1⟩ := trodAll_cons r0
  obtain ⟨v2, vs2, d2, ds2, p2, q2, rfl, rfl, rfl, h2, r2⟩ := trodAll_cons r1
  obtain ⟨rfl, rfl, rfl⟩ := trodAll_nil r2
  obtain rfl : args = #[v0, v1, v2] := by cases args; simp_all
  obtain ⟨rfl, rfl⟩ := trodVars_none hV
  have k0 := hval 0 26 v0 rfl rfl
  have k1 := hval 1 3 v1 rfl rfl
  have k2 := hval 2 3 v2 rfl rfl
  clear hA0 hval0
  refine (listHolds_run (enc := enc) W base k0 k1 k2 h0 h1 h2).mono fun e W' ⟨he, bel⟩ => ?_
  subst he
  exact ⟨_, rfl, _, _, _, [], _, [], hW', trodAll_mk1 (shut_bool Tryz.underlying4 _), (trodAll_cons_mk (below_arg acc_laidOut (by kernel_rfl) (of_decide_eq_true (by kernel_rfl)) h0 bel) (trodAll_cons_mk (below_arg acc_laidOut (by kernel_rfl) (of_decide_eq_true (by kernel_rfl)) h1 bel) (trodAll_cons_mk (below_arg acc_laidOut (by kernel_rfl) (of_decide_eq_true (by kernel_rfl)) h2 bel) trodAll_mk0))), rfl, bel.frame _, fun h => by cases h⟩

theorem listHolds_holds : Rows.ListHoldsSaid :=
  OpenClaim.holds_of_wide 4 Tryz.f4 rfl rfl rfl rfl rfl rfl rfl ⟨rfl, rfl, rfl, rfl, rfl⟩ rfl rfl rfl rfl rfl (by kernel_rfl) Tryz.func4 (by kernel_rfl)
    (of_decide_eq_true (by kernel_rfl)) (by unfold Func.isWrapper; rw [if_neg (of_decide_eq_false (by kernel_rfl))]; exact ⟨rfl, rfl⟩)
    (fun os started H enc _ => listHolds_lifted os started H enc)
#print axioms listHolds_holds
end Go.Proofs.YtfoifdoaleaekaaGreat
