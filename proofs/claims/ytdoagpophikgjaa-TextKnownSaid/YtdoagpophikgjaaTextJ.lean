/-
  Package text: the property TextReads.
-/
import Derived.Test.YtdoagpophikgjaaTextI
import Derived.Test.YtdoagpophikgjaaRefRow
import Derived.Test.YtdoagpophikgjaaCut
namespace Go.Proofs.Ytdoagpophikgjaa
open Go.RowKit Go.Acc
set_option maxRecDepth 100000 in
set_option maxHeartbeats 4000000 in
theorem textreads_spec (A : Option Addr) (n c : Nat) (p q t v : Int) (l : List UInt8) (w : World) (h : IsB w A n l) (hc : n ≤ c) :
    Calls Try.prog 9 #[.slice A n c, .agg #[.int .i64 p, .int .i64 q, .int .i64 t, .int .i64 v]] w fun e w' => e = .returned (.bool true) ∧ Below w.heap.size w w' := by
  obtain ⟨M, hMn, hMB, hmin, hcut⟩ := cut_facts A n c 600 600 rfl hc
  have HM := Lib.hid ((h.take bc_len hMn).alloc (.cells #[.int .i64 p, .int .i64 q, .int .i64 t, .int .i64 v] 25))
  have HB := Lib.hid ((Below.refl w.heap.size w).alloc (Nat.le_refl _) (.cells #[.int .i64 p, .int .i64 q, .int .i64 t, .int .i64 v] 25))
  have HX := Lib.hid (Blk.new w 25 #[.int .i64 p, .int .i64 q, .int .i64 t, .int .i64 v])
  clear h
  go_enter Try.func9, Try.ntmps9
  go_wp2_with fail
  go_at_call 14
  refine (copyb_spec A M c (l.take M) _ HM.out (by omega)).mono ?_
  rintro e w1 ⟨A1, n1, c1, rfl, hO1, hb1⟩
  obtain rfl : M = n1 := by rw [← hO1.1, HM.out.1]
  have hlen := HM.out.1
  generalize l.take M = l at hO1 hlen HM
  have HB := Lib.hid (pure_below HB.out hb1)
  have HO := Lib.hid hO1
  have HM := Lib.hid (HM.out.pure hb1)
  have HX := Lib.hid (HX.out.pure hb1)
  have hc1 := hO1.cap.1
  have x0 := cell0 HX.out
  have x1 := cell1 HX.out
  have x2 := cell2 HX.out
  have x3 := cell3 HX.out
  have hM40 : M ≤ 1099511627776 := by omega
  clear hO1 hb1 hlen
  go_wp2_with fail
  go_at_call 35
  refine (place_spec A1 M c1 p q t v l _ HO.out.is hc1 hM40).mono ?_
  rintro e wn ⟨rfl, hb⟩
  clear x0 x1 x2 x3
  have HB := Lib.hid (pure_below HB.out hb); have HO := Lib.hid (HO.out.pure hb); have HM := Lib.hid (HM.out.pure hb); have HX := Lib.hid (HX.out.pure hb); clear hb; have x0 := cell0 HX.out; have x1 := cell1 HX.out; have x2 := cell2 HX.out; have x3 := cell3 HX.out
  go_wp2_with fail
  go_at_call 36
  refine (rplace_spec A1 M c1 p q t v l _ HO.out.is hM40).mono ?_
  rintro e wn ⟨rfl, hb⟩
  clear x0 x1 x2 x3
  have HB := Lib.hid (pure_below HB.out hb); have HO := Lib.hid (HO.out.pure hb); have HM := Lib.hid (HM.out.pure hb); have HX := Lib.hid (HX.out.pure hb); clear hb; have x0 := cell0 HX.out; have x1 := cell1 HX.out; have x2 := cell2 HX.out; have x3 := cell3 HX.out
  go_wp2_with fail
  go_at_call 37
  refine (keyt_spec A1 M c1 p q t v l _ HO.out.is hc1 hM40).mono ?_
  rintro e wn ⟨rfl, hb⟩
  clear x0 x1 x2 x3
  have HB := Lib.hid (pure_below HB.out hb); have HO := Lib.hid (HO.out.pure hb); have HM := Lib.hid (HM.out.pure hb); have HX := Lib.hid (HX.out.pure hb); clear hb; have x0 := cell0 HX.out; have x1 := cell1 HX.out; have x2 := cell2 HX.out; have x3 := cell3 HX.out
  go_wp2_with fail
  go_at_call 38
  refine (rkeyt_spec A1 M c1 p q t v l _ HO.out.is hc1 hM40).mono ?_
  rintro e wn ⟨rfl, hb⟩
  clear x0 x1 x2 x3
  have HB := Lib.hid (pure_below HB.out hb); have HO := Lib.hid (HO.out.pure hb); have HM := Lib.hid (HM.out.pure hb); have HX := Lib.hid (HX.out.pure hb); clear hb; have x0 := cell0 HX.out; have x1 := cell1 HX.out; have x2 := cell2 HX.out; have x3 := cell3 HX.out
  go_wp2_with fail
  go_at_call 39
  refine (strt_spec A1 M c1 p q t v l _ HO.out.is hc1 hM40).mono ?_
  rintro e wn ⟨rfl, hb⟩
  clear x0 x1 x2 x3
  have HB := Lib.hid (pure_below HB.out hb); have HO := Lib.hid (HO.out.pure hb); have HM := Lib.hid (HM.out.pure hb); have HX := Lib.hid (HX.out.pure hb); clear hb; have x0 := cell0 HX.out; have x1 := cell1 HX.out; have x2 := cell2 HX.out; have x3 := cell3 HX.out
  go_wp2_with fail
  go_at_call 40
  refine (rstrt_spec A1 M c1 p q t v l _ HO.out.is hc1 hM40).mono ?_
  rintro e wn ⟨rfl, hb⟩
  clear x0 x1 x2 x3
  have HB := Lib.hid (pure_below HB.out hb); have HO := Lib.hid (HO.out.pure hb); have HM := Lib.hid (HM.out.pure hb); have HX := Lib.hid (HX.out.pure hb); clear hb; have x0 := cell0 HX.out; have x1 := cell1 HX.out; have x2 := cell2 HX.out; have x3 := cell3 HX.out
  go_wp2_with fail
  go_at_call 41
  refine (blobt_spec A1 M c1 p q t v l _ HO.out.is hc1 hM40).mono ?_
  rintro e wn ⟨rfl, hb⟩
  clear x0 x1 x2 x3
  have HB := Lib.hid (pure_below HB.out hb); have HO := Lib.hid (HO.out.pure hb); have HM := Lib.hid (HM.out.pure hb); have HX := Lib.hid (HX.out.pure hb); clear hb; have x0 := cell0 HX.out; have x1 := cell1 HX.out; have x2 := cell2 HX.out; have x3 := cell3 HX.out
  go_wp2_with fail
  go_at_call 42
  refine (rblobt_spec A1 M c1 p q t v l _ HO.out.is hc1 hM40).mono ?_
  rintro e wn ⟨rfl, hb⟩
  clear x0 x1 x2 x3
  have HB := Lib.hid (pure_below HB.out hb); have HO := Lib.hid (HO.out.pure hb); have HM := Lib.hid (HM.out.pure hb); have HX := Lib.hid (HX.out.pure hb); clear hb; have x0 := cell0 HX.out; have x1 := cell1 HX.out; have x2 := cell2 HX.out; have x3 := cell3 HX.out
  go_wp2_with fail
  go_at_call 43
  refine (textt_spec A1 M c1 p q t v l _ HO.out.is hc1 hM40).mono ?_
  rintro e wn ⟨rfl, hb⟩
  clear x0 x1 x2 x3
  have HB := Lib.hid (pure_below HB.out hb); have HO := Lib.hid (HO.out.pure hb); have HM := Lib.hid (HM.out.pure hb); have HX := Lib.hid (HX.out.pure hb); clear hb; have x0 := cell0 HX.out; have x1 := cell1 HX.out; have x2 := cell2 HX.out; have x3 := cell3 HX.out
  go_wp2_with fail
  go_at_call 44
  refine (rtextt_spec A1 M c1 p q t v l _ HO.out.is hc1 hM40).mono ?_
  rintro e wn ⟨rfl, hb⟩
  clear x0 x1 x2 x3
  have HB := Lib.hid (pure_below HB.out hb); have HO := Lib.hid (HO.out.pure hb); have HM := Lib.hid (HM.out.pure hb); have HX := Lib.hid (HX.out.pure hb); clear hb; have x0 := cell0 HX.out; have x1 := cell1 HX.out; have x2 := cell2 HX.out; have x3 := cell3 HX.out
  go_wp2_with fail
  go_at_call 17
  refine (eqb_spec A1 A M M c1 c _ _ _ HO.out.is HM.out).mono ?_
  rw [eqB_self]
  rintro e w' ⟨rfl, rfl⟩
  go_wp2_with fail
  go_at_call 45
  refine (spoil_spec A1 M c1 _ l _ HO.out).mono ?_
  rintro e w' ⟨rfl, hf⟩
  have HB := Lib.hid (below_fr HB.out hf (by
    rintro j ⟨ad, h, rfl⟩
    have := (HO.out.addr ad h).2.1
    simp at this
    omega))
  clear hf x0 x1 x2 x3 HX HM
  go_wp2_with fail
  go_at_call 46
  refine (textworks_spec _).mono ?_
  rintro e w9 ⟨rfl, hb⟩
  have HB := Lib.hid (pure_below HB.out hb)
  clear hb
  go_wp2
  go_ret
  exact ⟨rfl, HB.out⟩

open Go.ChangeShapes Go.WideShapes Go.ChangeAt
theorem textReads_run {H : Type} {enc : TypeId × Value → H} {v0 v1 : Value} {d0 d1 : DataW H} {p0 p1 : List MemPlace} (W : World) (base : Nat) (k0 : Value.okWide Try.prog W .any base 22 v0) (k1 : Value.okWide Try.prog W .any base 25 v1)
    (h0 : DataW.Trod enc Try.prog W 0 (fun _ => true) true 22 v0 d0 p0) (h1 : DataW.Trod enc Try.prog W 0 (fun _ => true) true 25 v1 d1 p1) :
    Calls Try.prog 9 #[v0, v1] W fun e w' => e = .returned (.bool true) ∧ Below W.heap.size W w' := by
  obtain ⟨A, n, c, l, rfl, hI, hc, _⟩ := bytes_arg k0 h0
  obtain ⟨p, q, t, v, rfl, _⟩ := ref_arg k1 h1
  exact textreads_spec A n c p q t v l W hI hc

set_option maxRecDepth 100000 in
theorem textReads_lifted (os : Os) (started : os.Started) (H : Type) (enc : TypeId × Value → H) :
    ReturnsInHanded {} Try.checked os 9 .any (Rows.textReadsSpec.pre6 enc Try.prog Try.f9 Rows.textReadsRow.domain false) (Rows.textReadsSpec.post enc Try.prog Try.f9 false true false false) := by
  refine returnsInHanded_of_change (C := Try.checked) acc_own started (by kernel_rfl) Try.func9
    (ChangeSpec.witness6 (enc := enc) (C := Try.checked) false ⟨#[], #[.slice none 0 0, .agg #[.int .i64 0, .int .i64 0, .int .i64 0, .int .i64 0]], []⟩ 8 (by kernel_rfl) (by kernel_rfl) (by kernel_rfl) (by kernel_rfl)) ?_
  intro W base args ds gs before hval0 hW hcnd _
  have hval : ∀ (j : Nat) t v, Try.f9.params[j]? = some t → args[j]? = some v → Value.okWide Try.prog W .any base t v := hval0
  have hW' := hW
  obtain ⟨p, q, hA0, hV, rfl, hfz, hnd⟩ := hW
  have hA : DataW.TrodAll enc Try.prog W 0 (fun _ => true) true Try.f9.params.toList args.toList ds p := hA0
  rw [Try.params9] at hA
  rw [Try.params9] at hval
  obtain ⟨v0, vs0, d0, ds0, p0, q0, hargs, rfl, rfl, h0, r0⟩ := trodAll_cons hA
  obtain ⟨v1, vs1, d1, ds1, p1, q1, rfl, rfl, rfl, h1, r1⟩ := trodAll_cons r0
  obtain ⟨rfl, rfl, rfl⟩ := trodAll_nil r1
  obtain rfl : args = #[v0, v1] := by cases args; simp_all
  obtain ⟨rfl, rfl⟩ := trodVars_none hV
  have k0 := hval 0 22 v0 rfl rfl
  have k1 := hval 1 25 v1 rfl rfl
  clear hA0 hval0
  refine (textReads_run (enc := enc) W base k0 k1 h0 h1).mono fun e W' ⟨he, bel⟩ => ?_
  subst he
  exact ⟨_, rfl, _, _, _, [], _, [], hW', trodAll_mk1 (shut_bool Try.underlying4 _), (trodAll_cons_mk (below_arg acc_laidOut (by kernel_rfl) (of_decide_eq_true (by kernel_rfl)) h0 bel) (trodAll_cons_mk (below_arg acc_laidOut (by kernel_rfl) (of_decide_eq_true (by kernel_rfl)) h1 bel) trodAll_mk0)), rfl, bel.frame _, fun h => by cases h⟩

theorem textReads_holds : Rows.TextReadsSaid :=
  OpenClaim.holds_of_wide 9 Try.f9 rfl rfl rfl rfl rfl rfl rfl ⟨rfl, rfl, rfl, rfl, rfl⟩ rfl rfl rfl rfl rfl (by kernel_rfl) Try.func9 (by kernel_rfl)
    (of_decide_eq_true (by kernel_rfl)) (by unfold Func.isWrapper; rw [if_neg (of_decide_eq_false (by kernel_rfl))]; exact ⟨rfl, rfl⟩)
    (fun os started H enc _ => textReads_lifted os started H enc)
#print axioms textReads_holds
end Go.Proofs.Ytdoagpophikgjaa
