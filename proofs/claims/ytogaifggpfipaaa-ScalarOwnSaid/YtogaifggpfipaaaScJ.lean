/-
  Package scalar: the property ScalarOne.
-/
import Derived.Test.YtogaifggpfipaaaScI
namespace Go.Proofs.Ytogaifggpfipaaa
open Go.RowKit Go.Acc
theorem one_cases (l : List UInt8) (p q t v : Int) :
    (plcE l p q t v ≠ 0 ∧ intV l p q t v = 0 ∧ intE l p q t v = plcE l p q t v ∧ (uintV l p q t v : Int) = 0 ∧ uintE l p q t v = plcE l p q t v ∧ boolV l p q t v = false) ∨
    (plcE l p q t v = 0 ∧ ∃ U : Nat, 1 ≤ U ∧ intV l p q t v = -(U : Int) ∧ intE l p q t v = 0 ∧ (uintV l p q t v : Int) = 0 ∧ uintE l p q t v = 10 ∧ boolV l p q t v = true) ∨
    (plcE l p q t v = 0 ∧ ∃ U : Nat, top63 U = true ∧ intV l p q t v = 0 ∧ intE l p q t v = 10 ∧ (uintV l p q t v : Int) = U ∧ uintE l p q t v = 0 ∧ boolV l p q t v = true) ∨
    (plcE l p q t v = 0 ∧ ∃ U : Nat, top63 U = false ∧ intV l p q t v = U ∧ intE l p q t v = 0 ∧ (uintV l p q t v : Int) = U ∧ uintE l p q t v = 0 ∧ boolV l p q t v = ((U : Int) != 0)) := by
  unfold intV intE uintV uintE boolV
  by_cases he : plcE l p q t v = 0
  · rw [he]
    cases hn : scN l p q t v with
    | true =>
      obtain ⟨_, h1, _⟩ := sc_neg hn
      refine .inr (.inl ⟨rfl, _, h1, rfl, rfl, rfl, rfl, ?_⟩)
      rw [bne_iff_ne]
      omega
    | false =>
      cases ht : top63 (scU l p q t v) with
      | true =>
        refine .inr (.inr (.inl ⟨rfl, _, ht, rfl, rfl, rfl, rfl, ?_⟩))
        unfold top63 at ht
        rw [decide_eq_true_eq] at ht
        rw [bne_iff_ne]
        omega
      | false => exact .inr (.inr (.inr ⟨rfl, _, ht, rfl, rfl, rfl, rfl, rfl⟩))
  · obtain ⟨h1, h2⟩ := sc_bad he
    rw [h1, h2, if_pos he, if_pos he]
    exact .inl ⟨he, rfl, rfl, rfl, rfl, rfl⟩
theorem int_is (A : Option Addr) (n c : Nat) (p q t v : Int) (l : List UInt8) (x er : Int) (w : World) (h : IsB w A n l) (hc : n ≤ c) (hn : n ≤ 9223372036854775807) (h1 : intV l p q t v = x) (h2 : intE l p q t v = er) :
    Calls Try.prog 17 #[.slice A n c, .agg #[.int .i64 p, .int .i64 q, .int .i64 t, .int .i64 v]] w fun e w' => e = .returned (.tuple #[.int .i64 x, .int .i64 er]) ∧ Below w.heap.size w w' := by
  subst h1 h2
  exact sint_spec A n c p q t v l w h hc hn
theorem uint_is (A : Option Addr) (n c : Nat) (p q t v : Int) (l : List UInt8) (x er : Int) (w : World) (h : IsB w A n l) (hc : n ≤ c) (hn : n ≤ 9223372036854775807) (h1 : (uintV l p q t v : Int) = x) (h2 : uintE l p q t v = er) :
    Calls Try.prog 19 #[.slice A n c, .agg #[.int .i64 p, .int .i64 q, .int .i64 t, .int .i64 v]] w fun e w' => e = .returned (.tuple #[.int .u64 x, .int .i64 er]) ∧ Below w.heap.size w w' := by
  subst h1 h2
  exact suint_spec A n c p q t v l w h hc hn
set_option maxRecDepth 100000 in
set_option maxHeartbeats 4000000 in
theorem scone_spec (A : Option Addr) (n c : Nat) (p q t v : Int) (l : List UInt8) (w : World) (h : IsB w A n l) (hc : n ≤ c) :
    Calls Try.prog 4 #[.slice A n c, .agg #[.int .i64 p, .int .i64 q, .int .i64 t, .int .i64 v]] w fun e w' => e = .returned (.bool true) ∧ Below w.heap.size w w' := by
  obtain ⟨M, hMn, hMB, hmin, hcut⟩ := cut_facts A n c 600 600 rfl hc
  have HM := Lib.hid ((h.take bc_len hMn).alloc (.cells #[.int .i64 p, .int .i64 q, .int .i64 t, .int .i64 v] 24))
  have HB := Lib.hid ((Below.refl w.heap.size w).alloc (Nat.le_refl _) (.cells #[.int .i64 p, .int .i64 q, .int .i64 t, .int .i64 v] 24))
  have HX := Lib.hid (Blk.new w 24 #[.int .i64 p, .int .i64 q, .int .i64 t, .int .i64 v])
  clear h
  go_enter Try.func4, Try.ntmps4
  go_wp2_with fail
  go_at_call 16
  refine (copyb_spec A M c (l.take M) _ HM.out (by omega)).mono ?_
  generalize w.alloc (.cells #[.int .i64 p, .int .i64 q, .int .i64 t, .int .i64 v] 24) = wB at HM HB HX ⊢
  rintro e w1 ⟨A1, n1, c1, rfl, hO1, hb1⟩
  obtain rfl : M = n1 := by rw [← hO1.1, HM.out.1]
  generalize l.take M = l at hO1
  replace HB := Lib.hid (pure_below HB.out hb1)
  have HI := Lib.hid hO1.is
  replace HX := Lib.hid (HX.out.pure hb1)
  have hc1 := hO1.cap.1
  have x0 := cell0 HX.out
  have x1 := cell1 HX.out
  have x2 := cell2 HX.out
  have x3 := cell3 HX.out
  have hM63 : M ≤ 9223372036854775807 := by omega
  clear hO1 hb1 HM hmin hcut
  rcases one_cases l p q t v with ⟨he, e1, e2, e3, e4, e5⟩ | ⟨he, U, hU, e1, e2, e3, e4, e5⟩ | ⟨he, U, hU, e1, e2, e3, e4, e5⟩ | ⟨he, U, hU, e1, e2, e3, e4, e5⟩
  · obtain ⟨E, hE⟩ : ∃ E, plcE l p q t v = E := ⟨_, rfl⟩
    rw [hE] at e2 e4 he
    have H0 := Lib.hid hE
    have H1 := Lib.hid e1
    have H2 := Lib.hid e2
    have H3 := Lib.hid e3
    have H4 := Lib.hid e4
    have H5 := Lib.hid e5
    have hne : (E != 0) = true := by simpa using he
    clear he hE e1 e2 e3 e4 e5
    go_wp2_with fail
    go_at_call 17
    refine (int_is A1 M c1 p q t v l 0 E _ HI.out hc1 hM63 H1.out H2.out).mono ?_
    rintro e wn ⟨rfl, hb⟩
    clear x0 x1 x2 x3
    replace HB := Lib.hid (pure_below HB.out hb); replace HI := Lib.hid (HI.out.pure hb); replace HX := Lib.hid (HX.out.pure hb); clear hb; have x0 := cell0 HX.out; have x1 := cell1 HX.out; have x2 := cell2 HX.out; have x3 := cell3 HX.out
    go_wp2_with fail
    go_at_call 19
    refine (uint_is A1 M c1 p q t v l 0 E _ HI.out hc1 hM63 H3.out H4.out).mono ?_
    rintro e wn ⟨rfl, hb⟩
    clear x0 x1 x2 x3
    replace HB := Lib.hid (pure_below HB.out hb); replace HI := Lib.hid (HI.out.pure hb); replace HX := Lib.hid (HX.out.pure hb); clear hb; have x0 := cell0 HX.out; have x1 := cell1 HX.out; have x2 := cell2 HX.out; have x3 := cell3 HX.out
    go_wp2_with fail
    go_at_call 21
    refine (bool_is A1 M c1 p q t v l false E _ HI.out hc1 hM63 H5.out H0.out).mono ?_
    rintro e wn ⟨rfl, hb⟩
    clear x0 x1 x2 x3
    replace HB := Lib.hid (pure_below HB.out hb); replace HI := Lib.hid (HI.out.pure hb); replace HX := Lib.hid (HX.out.pure hb); clear hb; have x0 := cell0 HX.out; have x1 := cell1 HX.out; have x2 := cell2 HX.out; have x3 := cell3 HX.out
    go_wp2_with fail
    go_at_call 23
    refine (splace_spec A1 M c1 p q t v l _ HI.out hc1 hM63).mono ?_
    unfold PlcW
    rw [H0.out]
    rintro e wn ⟨rfl, hb⟩
    clear x0 x1 x2 x3
    replace HB := Lib.hid (pure_below HB.out hb); replace HI := Lib.hid (HI.out.pure hb); replace HX := Lib.hid (HX.out.pure hb); clear hb; have x0 := cell0 HX.out; have x1 := cell1 HX.out; have x2 := cell2 HX.out; have x3 := cell3 HX.out
    clear x0 x1 x2 x3 HX HI
    go_wp2_with fail
    go_at_call 26
    refine (scworks_spec _).mono ?_
    rintro e w9 ⟨rfl, hb⟩
    replace HB := Lib.hid (pure_below HB.out hb)
    clear hb
    go_wp2
    go_ret
    exact ⟨rfl, HB.out⟩
  · have H0 := Lib.hid he
    have H1 := Lib.hid e1
    have H2 := Lib.hid e2
    have H3 := Lib.hid e3
    have H4 := Lib.hid e4
    have H5 := Lib.hid e5
    have hd : decide (-(U : Int) < 0) = true := decide_eq_true (by omega)
    clear he e1 e2 e3 e4 e5
    go_wp2_with fail
    go_at_call 17
    refine (int_is A1 M c1 p q t v l (-(U : Int)) 0 _ HI.out hc1 hM63 H1.out H2.out).mono ?_
    rintro e wn ⟨rfl, hb⟩
    clear x0 x1 x2 x3
    replace HB := Lib.hid (pure_below HB.out hb); replace HI := Lib.hid (HI.out.pure hb); replace HX := Lib.hid (HX.out.pure hb); clear hb; have x0 := cell0 HX.out; have x1 := cell1 HX.out; have x2 := cell2 HX.out; have x3 := cell3 HX.out
    go_wp2_with fail
    go_at_call 19
    refine (uint_is A1 M c1 p q t v l 0 10 _ HI.out hc1 hM63 H3.out H4.out).mono ?_
    rintro e wn ⟨rfl, hb⟩
    clear x0 x1 x2 x3
    replace HB := Lib.hid (pure_below HB.out hb); replace HI := Lib.hid (HI.out.pure hb); replace HX := Lib.hid (HX.out.pure hb); clear hb; have x0 := cell0 HX.out; have x1 := cell1 HX.out; have x2 := cell2 HX.out; have x3 := cell3 HX.out
    go_wp2_with fail
    go_at_call 21
    refine (bool_is A1 M c1 p q t v l true 0 _ HI.out hc1 hM63 H5.out H0.out).mono ?_
    rintro e wn ⟨rfl, hb⟩
    clear x0 x1 x2 x3
    replace HB := Lib.hid (pure_below HB.out hb); replace HI := Lib.hid (HI.out.pure hb); replace HX := Lib.hid (HX.out.pure hb); clear hb; have x0 := cell0 HX.out; have x1 := cell1 HX.out; have x2 := cell2 HX.out; have x3 := cell3 HX.out
    go_wp2_with fail
    go_at_call 23
    refine (splace_spec A1 M c1 p q t v l _ HI.out hc1 hM63).mono ?_
    unfold PlcW
    rw [H0.out]
    rintro e wn ⟨rfl, hb⟩
    clear x0 x1 x2 x3
    replace HB := Lib.hid (pure_below HB.out hb); replace HI := Lib.hid (HI.out.pure hb); replace HX := Lib.hid (HX.out.pure hb); clear hb; have x0 := cell0 HX.out; have x1 := cell1 HX.out; have x2 := cell2 HX.out; have x3 := cell3 HX.out
    clear x0 x1 x2 x3 HX HI
    go_wp2_with fail
    go_at_call 26
    refine (scworks_spec _).mono ?_
    rintro e w9 ⟨rfl, hb⟩
    replace HB := Lib.hid (pure_below HB.out hb)
    clear hb
    go_wp2
    go_ret
    exact ⟨rfl, HB.out⟩
  · have H0 := Lib.hid he
    have H1 := Lib.hid e1
    have H2 := Lib.hid e2
    have H3 := Lib.hid e3
    have H4 := Lib.hid e4
    have H5 := Lib.hid e5
    have hd := top_yes2 hU
    clear he e1 e2 e3 e4 e5 hU
    go_wp2_with fail
    go_at_call 17
    refine (int_is A1 M c1 p q t v l 0 10 _ HI.out hc1 hM63 H1.out H2.out).mono ?_
    rintro e wn ⟨rfl, hb⟩
    clear x0 x1 x2 x3
    replace HB := Lib.hid (pure_below HB.out hb); replace HI := Lib.hid (HI.out.pure hb); replace HX := Lib.hid (HX.out.pure hb); clear hb; have x0 := cell0 HX.out; have x1 := cell1 HX.out; have x2 := cell2 HX.out; have x3 := cell3 HX.out
    go_wp2_with fail
    go_at_call 19
    refine (uint_is A1 M c1 p q t v l U 0 _ HI.out hc1 hM63 H3.out H4.out).mono ?_
    rintro e wn ⟨rfl, hb⟩
    clear x0 x1 x2 x3
    replace HB := Lib.hid (pure_below HB.out hb); replace HI := Lib.hid (HI.out.pure hb); replace HX := Lib.hid (HX.out.pure hb); clear hb; have x0 := cell0 HX.out; have x1 := cell1 HX.out; have x2 := cell2 HX.out; have x3 := cell3 HX.out
    go_wp2_with fail
    go_at_call 21
    refine (bool_is A1 M c1 p q t v l true 0 _ HI.out hc1 hM63 H5.out H0.out).mono ?_
    rintro e wn ⟨rfl, hb⟩
    clear x0 x1 x2 x3
    replace HB := Lib.hid (pure_below HB.out hb); replace HI := Lib.hid (HI.out.pure hb); replace HX := Lib.hid (HX.out.pure hb); clear hb; have x0 := cell0 HX.out; have x1 := cell1 HX.out; have x2 := cell2 HX.out; have x3 := cell3 HX.out
    go_wp2_with fail
    go_at_call 23
    refine (splace_spec A1 M c1 p q t v l _ HI.out hc1 hM63).mono ?_
    unfold PlcW
    rw [H0.out]
    rintro e wn ⟨rfl, hb⟩
    clear x0 x1 x2 x3
    replace HB := Lib.hid (pure_below HB.out hb); replace HI := Lib.hid (HI.out.pure hb); replace HX := Lib.hid (HX.out.pure hb); clear hb; have x0 := cell0 HX.out; have x1 := cell1 HX.out; have x2 := cell2 HX.out; have x3 := cell3 HX.out
    clear x0 x1 x2 x3 HX HI
    go_wp2_with fail
    go_at_call 26
    refine (scworks_spec _).mono ?_
    rintro e w9 ⟨rfl, hb⟩
    replace HB := Lib.hid (pure_below HB.out hb)
    clear hb
    go_wp2
    go_ret
    exact ⟨rfl, HB.out⟩
  · have H0 := Lib.hid he
    have H1 := Lib.hid e1
    have H2 := Lib.hid e2
    have H3 := Lib.hid e3
    have H4 := Lib.hid e4
    have H5 := Lib.hid e5
    have hw : IntKind.u64.wrap (U : Int) = U := by
      have := top_no2 hU
      rw [decide_eq_false_iff_not] at this
      exact u64_in _ (by omega)
    clear he e1 e2 e3 e4 e5 hU
    go_wp2_with fail
    go_at_call 17
    refine (int_is A1 M c1 p q t v l U 0 _ HI.out hc1 hM63 H1.out H2.out).mono ?_
    rintro e wn ⟨rfl, hb⟩
    clear x0 x1 x2 x3
    replace HB := Lib.hid (pure_below HB.out hb); replace HI := Lib.hid (HI.out.pure hb); replace HX := Lib.hid (HX.out.pure hb); clear hb; have x0 := cell0 HX.out; have x1 := cell1 HX.out; have x2 := cell2 HX.out; have x3 := cell3 HX.out
    go_wp2_with fail
    go_at_call 19
    refine (uint_is A1 M c1 p q t v l U 0 _ HI.out hc1 hM63 H3.out H4.out).mono ?_
    rintro e wn ⟨rfl, hb⟩
    clear x0 x1 x2 x3
    replace HB := Lib.hid (pure_below HB.out hb); replace HI := Lib.hid (HI.out.pure hb); replace HX := Lib.hid (HX.out.pure hb); clear hb; have x0 := cell0 HX.out; have x1 := cell1 HX.out; have x2 := cell2 HX.out; have x3 := cell3 HX.out
    go_wp2_with fail
    go_at_call 21
    refine (bool_is A1 M c1 p q t v l ((U : Int) != 0) 0 _ HI.out hc1 hM63 H5.out H0.out).mono ?_
    rintro e wn ⟨rfl, hb⟩
    clear x0 x1 x2 x3
    replace HB := Lib.hid (pure_below HB.out hb); replace HI := Lib.hid (HI.out.pure hb); replace HX := Lib.hid (HX.out.pure hb); clear hb; have x0 := cell0 HX.out; have x1 := cell1 HX.out; have x2 := cell2 HX.out; have x3 := cell3 HX.out
    go_wp2_with fail
    go_at_call 23
    refine (splace_spec A1 M c1 p q t v l _ HI.out hc1 hM63).mono ?_
    unfold PlcW
    rw [H0.out]
    rintro e wn ⟨rfl, hb⟩
    clear x0 x1 x2 x3
    replace HB := Lib.hid (pure_below HB.out hb); replace HI := Lib.hid (HI.out.pure hb); replace HX := Lib.hid (HX.out.pure hb); clear hb; have x0 := cell0 HX.out; have x1 := cell1 HX.out; have x2 := cell2 HX.out; have x3 := cell3 HX.out
    clear x0 x1 x2 x3 HX HI
    go_wp2_with fail
    go_at_call 26
    refine (scworks_spec _).mono ?_
    rintro e w9 ⟨rfl, hb⟩
    replace HB := Lib.hid (pure_below HB.out hb)
    clear hb
    go_wp2
    go_ret
    exact ⟨rfl, HB.out⟩

open Go.ChangeShapes Go.WideShapes Go.ChangeAt
set_option maxRecDepth 100000 in
theorem scalarOne_run {H : Type} {enc : TypeId × Value → H} {v0 v1 : Value} {d0 d1 : DataW H} {p0 p1 : List MemPlace} (W : World) (base : Nat) (k0 : Value.okWide Try.prog W .any base 22 v0) (k1 : Value.okWide Try.prog W .any base 24 v1)
    (h0 : DataW.Trod enc Try.prog W 0 (fun _ => true) true 22 v0 d0 p0) (h1 : DataW.Trod enc Try.prog W 0 (fun _ => true) true 24 v1 d1 p1) :
    Calls Try.prog 4 #[v0, v1] W fun e w' => e = .returned (.bool true) ∧ Below W.heap.size W w' := by
  obtain ⟨A, n, c, l, rfl, hI, hc, _⟩ := bytes_arg k0 h0
  obtain ⟨p, q, t, v, rfl, _⟩ := ref_arg k1 h1
  exact scone_spec A n c p q t v l W hI hc

set_option maxRecDepth 100000 in
theorem scalarOne_lifted (os : Os) (started : os.Started) (H : Type) (enc : TypeId × Value → H) :
    ReturnsInHanded {} Try.checked os 4 .any (Rows.scalarOneSpec.pre6 enc Try.prog Try.f4 Rows.scalarOneRow.domain false) (Rows.scalarOneSpec.post enc Try.prog Try.f4 false true false false) := by
  refine returnsInHanded_of_change (C := Try.checked) acc_own started (by kernel_rfl) Try.func4
    (ChangeSpec.witness6 (enc := enc) (C := Try.checked) false ⟨#[], #[.slice none 0 0, .agg #[.int .i64 0, .int .i64 0, .int .i64 0, .int .i64 0]], []⟩ 8 (by kernel_rfl) (by kernel_rfl) (by kernel_rfl) (by kernel_rfl)) ?_
  intro W base args ds gs before hval0 hW hcnd _
  have hval : ∀ (j : Nat) t v, Try.f4.params[j]? = some t → args[j]? = some v → Value.okWide Try.prog W .any base t v := hval0
  have hW' := hW
  obtain ⟨p, q, hA0, hV, rfl, hfz, hnd⟩ := hW
  have hA : DataW.TrodAll enc Try.prog W 0 (fun _ => true) true Try.f4.params.toList args.toList ds p := hA0
  rw [Try.params4] at hA
  rw [Try.params4] at hval
  obtain ⟨v0, vs0, d0, ds0, p0, q0, hargs, rfl, rfl, h0, r0⟩ := trodAll_cons hA
  obtain ⟨v1, vs1, d1, ds1, p1, q1, rfl, rfl, rfl, h1, r1⟩ := trodAll_cons r0
  obtain ⟨rfl, rfl, rfl⟩ := trodAll_nil r1
  obtain rfl : args = #[v0, v1] := by cases args; simp_all
  obtain ⟨rfl, rfl⟩ := trodVars_none hV
  have k0 := hval 0 22 v0 rfl rfl
  have k1 := hval 1 24 v1 rfl rfl
  clear hA0 hval0
  refine (scalarOne_run (enc := enc) W base k0 k1 h0 h1).mono fun e W' ⟨he, bel⟩ => ?_
  subst he
  exact ⟨_, rfl, _, _, _, [], _, [], hW', trodAll_mk1 (shut_bool Try.underlying4 _), (trodAll_cons_mk (below_arg acc_laidOut (by kernel_rfl) (of_decide_eq_true (by kernel_rfl)) h0 bel) (trodAll_cons_mk (below_arg acc_laidOut (by kernel_rfl) (of_decide_eq_true (by kernel_rfl)) h1 bel) trodAll_mk0)), rfl, bel.frame _, fun h => by cases h⟩

theorem scalarOne_holds : Rows.ScalarOneSaid :=
  OpenClaim.holds_of_wide 4 Try.f4 rfl rfl rfl rfl rfl rfl rfl ⟨rfl, rfl, rfl, rfl, rfl⟩ rfl rfl rfl rfl rfl (by kernel_rfl) Try.func4 (by kernel_rfl)
    (of_decide_eq_true (by kernel_rfl)) (by unfold Func.isWrapper; rw [if_neg (of_decide_eq_false (by kernel_rfl))]; exact ⟨rfl, rfl⟩)
    (fun os started H enc _ => scalarOne_lifted os started H enc)
#print axioms scalarOne_holds
end Go.Proofs.Ytogaifggpfipaaa
