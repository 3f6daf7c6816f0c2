/-
  TextHolds: for every string, kind and surroundings, keys, strings and blobs in a built document are read unchanged. No conditions.
-/
import Derived.Test.YtjhigmgkmmjlfaaGreatQThC
namespace Go.Proofs.YtjhigmgkmmjlfaaGreat
open Go.RowKit Go.Acc Go.ChangeShapes Go.WideShapes Go.ChangeAt
set_option maxRecDepth 100000 in
set_option maxHeartbeats 4000000 in
theorem tholds_err (s : List UInt8) (kd ah : Int) (A : Option Addr) (n c : Nat) (w : World) (hk : kd % 3 = 0) (he : txtE 5 (s.take 300) ≠ 0) :
    Calls Tryz.prog 4 #[.string ⟨s.toArray⟩, .int .i64 kd, .agg #[.int .i64 ah, .slice A n c]] w fun e w' => e = .returned (.bool true) ∧ Below w.heap.size w w' := by
  have HSH := Lib.hid (fun w => short_to s 300 w)
  have HBR := Lib.hid (fun (w : World) => show Calls Tryz.prog 14 #[.int .i64 kd, .int .i64 3] w fun e w' => e = .returned (.int .i64 0) ∧ w = w' by have h := bring_spec kd 3 w (by omega) (by omega); rw [hk] at h; exact h)
  generalize s.take 300 = S at HSH he
  obtain ⟨ke, hke⟩ : ∃ ke, txtE 5 S = ke := ⟨_, rfl⟩
  have HD := Lib.hid (fun w => build_txt_err 0 (k := 5) (.inl rfl) he w)
  have HCH := Lib.hid (fun w => check_txt (k := 5) S (.inl rfl) w)
  rw [hke] at HD HCH he
  have hne : (ke != 0) = true := by simpa using he
  have HB0 := Lib.hid (show Below w.heap.size w (w.alloc (.cells #[.int .i64 ah, .slice A n c] 46)) from (Below.refl _ _).alloc (Nat.le_refl _) _)
  clear hk he hke
  go_enter Tryz.func4, Tryz.ntmps4
  go_wp2_with fail
  go_at_call 20
  refine (textworks_spec _).mono ?_
  rintro e w1 ⟨rfl, hb⟩
  have HB1 := Lib.hid (pure_below HB0.out hb)
  clear hb HB0
  go_wp2_with fail
  go_at_call 21
  refine (HSH.out _).mono ?_
  rintro e w' ⟨rfl, rfl⟩
  go_wp2_with fail
  go_at_call 14
  refine (HBR.out _).mono ?_
  rintro e w' ⟨rfl, rfl⟩
  go_wp2_with fail
  go_at_call 12
  have HB2 := Lib.hid ((HB1.out.alloc HB1.out.size (.cells #[.int .i64 5, .int .i64 6, .int .i64 7] 3)).alloc (by have h := HB1.out.size; simp; omega) (.cells #[.int .i64 5, .int .i64 0, .int .u64 ((0 : Nat) : Int), .string ⟨S.toArray⟩, .slice none 0 0, .slice none 0 0] 26))
  have HN := Lib.hid (Blk.new_ (w := w1.alloc (.cells #[.int .i64 5, .int .i64 6, .int .i64 7] 3)) (g := w1.heap.size + 1) (by simp) 26 #[.int .i64 5, .int .i64 0, .int .u64 ((0 : Nat) : Int), .string ⟨S.toArray⟩, .slice none 0 0, .slice none 0 0])
  refine (HD.out _).mono ?_
  rintro e w2 ⟨rfl, hb⟩
  have HB3 := Lib.hid (pure_below HB2.out hb)
  have hN := HN.out.pure hb
  have x0 : w2.cell? ⟨w1.heap.size + 1, 0, none⟩ = some (.int .i64 5) := hN.cell 0
  have x1 : w2.cell? ⟨w1.heap.size + 1, 1, none⟩ = some (.int .i64 0) := hN.cell 1
  have x2 : w2.cell? ⟨w1.heap.size + 1, 2, none⟩ = some (.int .u64 0) := hN.cell 2
  have x3 : w2.cell? ⟨w1.heap.size + 1, 3, none⟩ = some (.string ⟨S.toArray⟩) := hN.cell 3
  have x4 : w2.cell? ⟨w1.heap.size + 1, 4, none⟩ = some (.slice none 0 0) := hN.cell 4
  have x5 : w2.cell? ⟨w1.heap.size + 1, 5, none⟩ = some (.slice none 0 0) := hN.cell 5
  clear hb hN HB1 HB2
  go_wp2_with fail
  go_at_call 13
  refine (HCH.out _).mono ?_
  rintro e w3 ⟨rfl, hb⟩
  have HB4 := Lib.hid (pure_below HB3.out hb)
  clear hb x0 x1 x2 x3 x4 x5
  go_wp2_with fail
  go_ret
  exact ⟨rfl, HB4.out⟩
theorem tholds_spec (s : List UInt8) (kd ah : Int) (A : Option Addr) (n c : Nat) (z : List UInt8) (w : World) (hz : IsB w A n z) (hc : n ≤ c) :
    Calls Tryz.prog 4 #[.string ⟨s.toArray⟩, .int .i64 kd, .agg #[.int .i64 ah, .slice A n c]] w fun e w' => e = .returned (.bool true) ∧ Below w.heap.size w w' := by
  have hk : kd % 3 = 0 ∨ kd % 3 = 1 ∨ kd % 3 = 2 := by omega
  rcases hk with hk | hk | hk
  · by_cases he : txtE 5 (s.take 300) = 0
    · exact tholds_ok s kd ah 5 0 A n c z w hz hc hk (.inl ⟨rfl, rfl⟩) he
    · exact tholds_err s kd ah A n c w hk he
  · exact tholds_ok s kd ah 6 1 A n c z w hz hc hk (.inr (.inl ⟨rfl, rfl⟩)) rfl
  · exact tholds_ok s kd ah 7 2 A n c z w hz hc hk (.inr (.inr ⟨rfl, rfl⟩)) rfl
set_option maxRecDepth 100000 in
theorem string_arg {H : Type} {enc : TypeId × Value → H} {W : World} {base : Nat} {v : Value} {d : DataW H} {p : List MemPlace} (k : Value.okWide Tryz.prog W .any base 9 v) (h : DataW.Trod enc Tryz.prog W 0 (fun _ => true) true 9 v d p) :
    ∃ s : List UInt8, v = .string ⟨s.toArray⟩ := by
  obtain ⟨s, rfl⟩ := okWide_string Tryz.underlying9 k
  exact ⟨s.data.toList, rfl⟩
set_option maxRecDepth 100000 in
theorem around_arg {H : Type} {enc : TypeId × Value → H} {W : World} {base : Nat} {v : Value} {d : DataW H} {p : List MemPlace} (k : Value.okWide Tryz.prog W .any base 46 v) (h : DataW.Trod enc Tryz.prog W 0 (fun _ => true) true 46 v d p) :
    ∃ (x : Int) (A : Option Addr) (n c : Nat) (l : List UInt8), v = .agg #[.int .i64 x, .slice A n c] ∧ IsB W A n l ∧ n ≤ c := by
  obtain ⟨v0, v1, y0, y1, m, rfl, _, _, t0, t1⟩ := Joins.open_agg2 Tryz.underlying46 (by kernel_rfl) (by kernel_rfl) k h
  obtain ⟨n0, e0, _, _⟩ := DataW.trod_int Tryz.underlying3 t0
  obtain rfl : v0 = .int .i64 n0 := by simpa using e0
  obtain ⟨A, n, c, l, e1, hI, hc, _⟩ := bytes_read t1
  subst e1
  exact ⟨n0, A, n, c, l, rfl, hI, hc⟩
set_option maxRecDepth 100000 in
theorem textHolds_run {H : Type} {enc : TypeId × Value → H} {v0 v1 v2 : Value} {d0 d1 d2 : DataW H} {p0 p1 p2 : List MemPlace} (W : World) (base : Nat) (k0 : Value.okWide Tryz.prog W .any base 9 v0) (k1 : Value.okWide Tryz.prog W .any base 3 v1) (k2 : Value.okWide Tryz.prog W .any base 46 v2)
    (h0 : DataW.Trod enc Tryz.prog W 0 (fun _ => true) true 9 v0 d0 p0) (h1 : DataW.Trod enc Tryz.prog W 0 (fun _ => true) true 3 v1 d1 p1) (h2 : DataW.Trod enc Tryz.prog W 0 (fun _ => true) true 46 v2 d2 p2) :
    Calls Tryz.prog 4 #[v0, v1, v2] W fun e w' => e = .returned (.bool true) ∧ Below W.heap.size W w' := by
  obtain ⟨s, rfl⟩ := string_arg k0 h0
  obtain ⟨kd, rfl, _⟩ := int_arg k1 h1
  obtain ⟨x, A, n, c, l, rfl, hI, hc⟩ := around_arg k2 h2
  exact tholds_spec s kd x A n c l W hI hc

set_option maxRecDepth 100000 in
theorem textHolds_lifted (os : Os) (started : os.Started) (H : Type) (enc : TypeId × Value → H) :
    ReturnsInHanded {} Tryz.checked os 4 .any (Rows.textHoldsSpec.pre6 enc Tryz.prog Tryz.f4 Rows.textHoldsRow.domain false) (Rows.textHoldsSpec.post enc Tryz.prog Tryz.f4 false true false false) := by
  refine returnsInHanded_of_change (C := Tryz.checked) acc_own started (by kernel_rfl) Tryz.func4
    (ChangeSpec.witness6 (enc := enc) (C := Tryz.checked) false ⟨#[], #[.string ⟨#[]⟩, .int .i64 0, .agg #[.int .i64 0, .slice none 0 0]], []⟩ 8 (by kernel_rfl) (by kernel_rfl) (by kernel_rfl) (by kernel_rfl)) ?_
  intro W base args ds gs before hval0 hW hcnd _
  have hval : ∀ (j : Nat) t v, Tryz.f4.params[j]? = some t → args[j]? = some v → Value.okWide Tryz.prog W .any base t v := hval0
  have hW' := hW
  obtain ⟨p, q, hA0, hV, rfl, hfz, hnd⟩ := hW
  have hA : DataW.TrodAll enc Tryz.prog W 0 (fun _ => true) true Tryz.f4.params.toList args.toList ds p := hA0
  rw [Tryz.params4] at hA
  rw [Tryz.params4] at hval
  obtain ⟨v0, vs0, d0, ds0, p0, q0, hargs, rfl, rfl, h0, r0⟩ := trodAll_cons hA
  obtain ⟨v1, vs1, d1, ds1, p1, q1, rfl, rfl, rfl, h1, r1⟩ := trodAll_cons r0
  obtain ⟨v2, vs2, d2, ds2, p2, q2, rfl, rfl, rfl, h2, r2⟩ := trodAll_cons r1
  obtain ⟨rfl, rfl, rfl⟩ := trodAll_nil r2
  obtain rfl : args = #[v0, v1, v2] := by cases args; simp_all
  obtain ⟨rfl, rfl⟩ := trodVars_none hV
  have k0 := hval 0 9 v0 rfl rfl
  have k1 := hval 1 3 v1 rfl rfl
  have k2 := hval 2 46 v2 rfl rfl
  clear hA0 hval0
  refine (textHolds_run (enc := enc) W base k0 k1 k2 h0 h1 h2).mono fun e W' ⟨he, bel⟩ => ?_
  subst he
  exact ⟨_, rfl, _, _, _, [], _, [], hW', trodAll_mk1 (shut_bool Tryz.underlying4 _), (trodAll_cons_mk (below_arg acc_laidOut (by kernel_rfl) (of_decide_eq_true (by kernel_rfl)) h0 bel) (trodAll_cons_mk (below_arg acc_laidOut (by kernel_rfl) (of_decide_eq_true (by kernel_rfl)) h1 bel) (trodAll_cons_mk (below_arg acc_laidOut (by kernel_rfl) (of_decide_eq_true (by kernel_rfl)) h2 bel) trodAll_mk0))), rfl, bel.frame _, fun h => by cases h⟩

theorem textHolds_holds : Rows.TextHoldsSaid :=
  OpenClaim.holds_of_wide 4 Tryz.f4 rfl rfl rfl rfl rfl rfl rfl ⟨rfl, rfl, rfl, rfl, rfl⟩ rfl rfl rfl rfl rfl (by kernel_rfl) Tryz.func4 (by kernel_rfl)
    (of_decide_eq_true (by kernel_rfl)) (by unfold Func.isWrapper; rw [if_neg (of_decide_eq_false (by kernel_rfl))]; exact ⟨rfl, rfl⟩)
    (fun os started H enc _ => textHolds_lifted os started H enc)
#print axioms textHolds_holds
end Go.Proofs.YtjhigmgkmmjlfaaGreat
