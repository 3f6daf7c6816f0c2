/-
  Package list: the property ListTells.
-/
import Derived.Test.YtaigofpipoimkaaLiJ
import Derived.Test.YtaigofpipoimkaaLiL
import Derived.Test.YtaigofpipoimkaaRefRow
import Derived.Test.YtaigofpipoimkaaCut
namespace Go.Proofs.Ytaigofpipoimkaa
open Go.RowKit Go.Acc
theorem rspans_is (A : Option Addr) (n c : Nat) (p q t v f a o er : Int) (l : List UInt8) (w : World) (h : IsB w A n l) (hn : n ≤ 1099511627776) (h1 : (lsFrom l p q t v : Int) = f) (h2 : (lsAt l p q t v : Int) = a) (h3 : (lsTo l p q t v : Int) = o) (h4 : lsE l p q t v = er) :
    Calls Try.prog 34 #[.slice A n c, .agg #[.int .i64 p, .int .i64 q, .int .i64 t, .int .i64 v]] w fun e w' => e = .returned (.tuple #[.int .i64 f, .int .i64 a, .int .i64 o, .int .i64 er]) ∧ Below w.heap.size w w' := by
  subst h1 h2 h3 h4
  exact rspans_spec A n c p q t v l w h hn
theorem rlen_is (A : Option Addr) (n c : Nat) (p q t v k er : Int) (l : List UInt8) (w : World) (h : IsB w A n l) (hn : n ≤ 1099511627776) (h1 : (lsLen l p q t v : Int) = k) (h4 : lsE l p q t v = er) :
    Calls Try.prog 36 #[.slice A n c, .agg #[.int .i64 p, .int .i64 q, .int .i64 t, .int .i64 v]] w fun e w' => e = .returned (.tuple #[.int .i64 k, .int .i64 er]) ∧ Below w.heap.size w w' := by
  subst h1 h4
  exact rlen_spec A n c p q t v l w h hn
theorem rat_is (A : Option Addr) (n c : Nat) (p q t v i a b d g er : Int) (l : List UInt8) (w : World) (h : IsB w A n l) (hn : n ≤ 1099511627776) (h1 : atP l p q t v i = a) (h2 : atQ l p q t v i = b) (h3 : atT l p q t v i = d) (h4 : atV l p q t v i = g) (h5 : atE l p q t v i = er) :
    Calls Try.prog 38 #[.slice A n c, .agg #[.int .i64 p, .int .i64 q, .int .i64 t, .int .i64 v], .int .i64 i] w fun e w' => e = .returned (.tuple #[.agg #[.int .i64 a, .int .i64 b, .int .i64 d, .int .i64 g], .int .i64 er]) ∧ Below w.heap.size w w' := by
  subst h1 h2 h3 h4 h5
  exact rat_spec A n c p q t v i l w h hn
set_option maxRecDepth 100000 in
set_option maxHeartbeats 4000000 in
theorem listtells_spec (A : Option Addr) (n c : Nat) (p q t v i : Int) (l : List UInt8) (w : World) (h : IsB w A n l) (hc : n ≤ c) :
    Calls Try.prog 7 #[.slice A n c, .agg #[.int .i64 p, .int .i64 q, .int .i64 t, .int .i64 v], .int .i64 i] w fun e w' => e = .returned (.bool true) ∧ Below w.heap.size w w' := by
  obtain ⟨M, hMn, hMB, hmin, hcut⟩ := cut_facts A n c 600 600 rfl hc
  have HM := Lib.hid ((h.take bc_len hMn).alloc (.cells #[.int .i64 p, .int .i64 q, .int .i64 t, .int .i64 v] 23))
  have HB := Lib.hid ((Below.refl w.heap.size w).alloc (Nat.le_refl _) (.cells #[.int .i64 p, .int .i64 q, .int .i64 t, .int .i64 v] 23))
  have HX := Lib.hid (Blk.new w 23 #[.int .i64 p, .int .i64 q, .int .i64 t, .int .i64 v])
  clear h
  go_enter Try.func7, Try.ntmps7
  go_wp2_with fail
  go_at_call 15
  refine (copyb_spec A M c (l.take M) _ HM.out (by omega)).mono ?_
  rintro e w1 ⟨A1, n1, c1, rfl, hO1, hb1⟩
  obtain rfl : M = n1 := by rw [← hO1.1, HM.out.1]
  have hlen := HM.out.1
  generalize l.take M = l at hO1 hlen HM
  have hlm := lslen_le l p q t v
  rw [hlen] at hlm
  have HB := Lib.hid (pure_below HB.out hb1)
  have HO := Lib.hid hO1.is
  have HM := Lib.hid (HM.out.pure hb1)
  have HX := Lib.hid (HX.out.pure hb1)
  have hc1 := hO1.cap.1
  have x0 := cell0 HX.out; have x1 := cell1 HX.out; have x2 := cell2 HX.out; have x3 := cell3 HX.out
  have hM40 : M ≤ 1099511627776 := by omega
  obtain ⟨nf, hnf⟩ : ∃ x : Int, (lsFrom l p q t v : Int) = x := ⟨_, rfl⟩
  obtain ⟨na, hna⟩ : ∃ x : Int, (lsAt l p q t v : Int) = x := ⟨_, rfl⟩
  obtain ⟨nt, hnt⟩ : ∃ x : Int, (lsTo l p q t v : Int) = x := ⟨_, rfl⟩
  obtain ⟨nl, hnl⟩ : ∃ x : Nat, lsLen l p q t v = x := ⟨_, rfl⟩
  obtain ⟨ne, hne⟩ : ∃ x, lsE l p q t v = x := ⟨_, rfl⟩
  have HNF := Lib.hid hnf
  have HNA := Lib.hid hna
  have HNT := Lib.hid hnt
  have HNL := Lib.hid (show (lsLen l p q t v : Int) = (nl : Int) by rw [hnl])
  have HNE := Lib.hid hne
  rw [hnl] at hlm
  clear hO1 hb1 hlen hnf hna hnt hnl hne
  go_wp2_with fail
  go_at_call 33
  refine (lspan_is A1 M c1 p q t v nf na nt ne l _ HO.out hc1 hM40 HNF.out HNA.out HNT.out HNE.out).mono ?_
  rintro e wn ⟨rfl, hb⟩
  clear x0 x1 x2 x3
  replace HB := Lib.hid (pure_below HB.out hb); replace HO := Lib.hid (HO.out.pure hb); replace HM := Lib.hid (HM.out.pure hb); replace HX := Lib.hid (HX.out.pure hb)
  clear hb
  have x0 := cell0 HX.out; have x1 := cell1 HX.out; have x2 := cell2 HX.out; have x3 := cell3 HX.out
  go_wp2_with fail
  go_at_call 34
  refine (rspans_is A1 M c1 p q t v nf na nt ne l _ HO.out hM40 HNF.out HNA.out HNT.out HNE.out).mono ?_
  rintro e wn ⟨rfl, hb⟩
  clear x0 x1 x2 x3
  replace HB := Lib.hid (pure_below HB.out hb); replace HO := Lib.hid (HO.out.pure hb); replace HM := Lib.hid (HM.out.pure hb); replace HX := Lib.hid (HX.out.pure hb)
  clear hb
  have x0 := cell0 HX.out; have x1 := cell1 HX.out; have x2 := cell2 HX.out; have x3 := cell3 HX.out
  go_wp2_with fail
  go_at_call 35
  refine (llen_is A1 M c1 p q t v nl ne l _ HO.out hc1 hM40 HNL.out HNE.out).mono ?_
  rintro e wn ⟨rfl, hb⟩
  clear x0 x1 x2 x3
  replace HB := Lib.hid (pure_below HB.out hb); replace HO := Lib.hid (HO.out.pure hb); replace HM := Lib.hid (HM.out.pure hb); replace HX := Lib.hid (HX.out.pure hb)
  clear hb
  have x0 := cell0 HX.out; have x1 := cell1 HX.out; have x2 := cell2 HX.out; have x3 := cell3 HX.out
  go_wp2_with fail
  go_at_call 36
  refine (rlen_is A1 M c1 p q t v nl ne l _ HO.out hM40 HNL.out HNE.out).mono ?_
  rintro e wn ⟨rfl, hb⟩
  clear x0 x1 x2 x3
  replace HB := Lib.hid (pure_below HB.out hb); replace HO := Lib.hid (HO.out.pure hb); replace HM := Lib.hid (HM.out.pure hb); replace HX := Lib.hid (HX.out.pure hb)
  clear hb
  have x0 := cell0 HX.out; have x1 := cell1 HX.out; have x2 := cell2 HX.out; have x3 := cell3 HX.out
  clear x0 x1 x2 x3
  go_wp2_with fail
  go_loopw [20] (fun k wr => ∃ j : Nat, j ≤ nl + 3 ∧ k = .int .i64 ((j : Int) - 1) ∧ Below w.heap.size w wr ∧ IsB wr A1 M l ∧ IsB wr A M l ∧ Blk wr w.heap.size 23 #[.int .i64 p, .int .i64 q, .int .i64 t, .int .i64 v]) (fun k _ => (nl + 2 - (intOf k)).toNat)
  case atStart => exact ⟨0, by omega, rfl, HB.out, HO.out, HM.out, HX.out⟩
  case round =>
    obtain ⟨j, hj, rfl, hB', hO', hM', hX'⟩ := hrel
    clear HB HO HM HX
    have HB := Lib.hid hB'
    have HO := Lib.hid hO'
    have HM := Lib.hid hM'
    have HX := Lib.hid hX'
    clear hB' hO' hM' hX'
    by_cases hlt : j < nl + 3
    · have hd0 : (j : Int) - 1 < nl + 2 := by omega
      obtain ⟨a, ha⟩ : ∃ x, atP l p q t v ((j : Int) - 1) = x := ⟨_, rfl⟩
      obtain ⟨b, hb⟩ : ∃ x, atQ l p q t v ((j : Int) - 1) = x := ⟨_, rfl⟩
      obtain ⟨d, hd⟩ : ∃ x, atT l p q t v ((j : Int) - 1) = x := ⟨_, rfl⟩
      obtain ⟨g, hg⟩ : ∃ x, atV l p q t v ((j : Int) - 1) = x := ⟨_, rfl⟩
      obtain ⟨er, her⟩ : ∃ x, atE l p q t v ((j : Int) - 1) = x := ⟨_, rfl⟩
      have H1 := Lib.hid ha
      have H2 := Lib.hid hb
      have H3 := Lib.hid hd
      have H4 := Lib.hid hg
      have H5 := Lib.hid her
      clear ha hb hd hg her
      have x0 := cell0 HX.out; have x1 := cell1 HX.out; have x2 := cell2 HX.out; have x3 := cell3 HX.out
      go_wp2_with fail
      go_at_call 37
      refine (lat_is A1 M c1 p q t v ((j : Int) - 1) a b d g er l _ HO.out hc1 hM40 H1.out H2.out H3.out H4.out H5.out).mono ?_
      rintro e wn ⟨rfl, hb⟩
      clear x0 x1 x2 x3
      replace HB := Lib.hid (pure_below HB.out hb); replace HO := Lib.hid (HO.out.pure hb); replace HM := Lib.hid (HM.out.pure hb); replace HX := Lib.hid (HX.out.pure hb)
      clear hb
      have x0 := cell0 HX.out; have x1 := cell1 HX.out; have x2 := cell2 HX.out; have x3 := cell3 HX.out
      have HK := Lib.hid (Blk.new wn 23 #[.int .i64 a, .int .i64 b, .int .i64 d, .int .i64 g])
      clear x0 x1 x2 x3
      replace HB := Lib.hid (HB.out.alloc HB.out.size (.cells #[.int .i64 a, .int .i64 b, .int .i64 d, .int .i64 g] 23))
      replace HO := Lib.hid (HO.out.pure ((Below.refl _ _).alloc (Nat.le_refl _) (.cells #[.int .i64 a, .int .i64 b, .int .i64 d, .int .i64 g] 23)))
      replace HM := Lib.hid (HM.out.alloc (.cells #[.int .i64 a, .int .i64 b, .int .i64 d, .int .i64 g] 23))
      replace HX := Lib.hid (HX.out.alloc (.cells #[.int .i64 a, .int .i64 b, .int .i64 d, .int .i64 g] 23))
      have x0 := cell0 HX.out; have x1 := cell1 HX.out; have x2 := cell2 HX.out; have x3 := cell3 HX.out
      go_wp2_with fail
      go_at_call 38
      refine (rat_is A1 M c1 p q t v ((j : Int) - 1) a b d g er l _ HO.out hM40 H1.out H2.out H3.out H4.out H5.out).mono ?_
      rintro e wm ⟨rfl, hb⟩
      clear x0 x1 x2 x3
      replace HB := Lib.hid (pure_below HB.out hb); replace HO := Lib.hid (HO.out.pure hb); replace HM := Lib.hid (HM.out.pure hb); replace HX := Lib.hid (HX.out.pure hb)
      replace HK := Lib.hid (HK.out.pure hb)
      clear hb
      have x0 := cell0 HX.out; have x1 := cell1 HX.out; have x2 := cell2 HX.out; have x3 := cell3 HX.out
      clear x0 x1 x2 x3
      replace HB := Lib.hid (HB.out.alloc HB.out.size (.cells #[.int .i64 a, .int .i64 b, .int .i64 d, .int .i64 g] 23))
      replace HO := Lib.hid (HO.out.pure ((Below.refl _ _).alloc (Nat.le_refl _) (.cells #[.int .i64 a, .int .i64 b, .int .i64 d, .int .i64 g] 23)))
      replace HM := Lib.hid (HM.out.alloc (.cells #[.int .i64 a, .int .i64 b, .int .i64 d, .int .i64 g] 23))
      replace HX := Lib.hid (HX.out.alloc (.cells #[.int .i64 a, .int .i64 b, .int .i64 d, .int .i64 g] 23))
      have x0 := cell0 HX.out; have x1 := cell1 HX.out; have x2 := cell2 HX.out; have x3 := cell3 HX.out
      have y0 := cell0 HK.out
      have y1 := cell1 HK.out
      have y2 := cell2 HK.out
      have y3 := cell3 HK.out
      have hlt := HK.out.lt
      clear HK
      go_wp2
      go_roundw
      case rel => exact ⟨j + 1, by omega, by go_num, HB.out, HO.out, HM.out, HX.out⟩
      case measure => simp [intOf]; omega
    · obtain rfl : j = nl + 3 := by omega
      have hd0 : ¬ (((nl + 3 : Nat) : Int) - 1 < nl + 2) := by omega
      obtain ⟨a, ha⟩ : ∃ x, atP l p q t v i = x := ⟨_, rfl⟩
      obtain ⟨b, hb⟩ : ∃ x, atQ l p q t v i = x := ⟨_, rfl⟩
      obtain ⟨d, hd⟩ : ∃ x, atT l p q t v i = x := ⟨_, rfl⟩
      obtain ⟨g, hg⟩ : ∃ x, atV l p q t v i = x := ⟨_, rfl⟩
      obtain ⟨er, her⟩ : ∃ x, atE l p q t v i = x := ⟨_, rfl⟩
      have H1 := Lib.hid ha
      have H2 := Lib.hid hb
      have H3 := Lib.hid hd
      have H4 := Lib.hid hg
      have H5 := Lib.hid her
      clear ha hb hd hg her
      have x0 := cell0 HX.out; have x1 := cell1 HX.out; have x2 := cell2 HX.out; have x3 := cell3 HX.out
      go_wp2_with fail
      go_at_call 37
      refine (lat_is A1 M c1 p q t v i a b d g er l _ HO.out hc1 hM40 H1.out H2.out H3.out H4.out H5.out).mono ?_
      rintro e wn ⟨rfl, hb⟩
      clear x0 x1 x2 x3
      replace HB := Lib.hid (pure_below HB.out hb); replace HO := Lib.hid (HO.out.pure hb); replace HM := Lib.hid (HM.out.pure hb); replace HX := Lib.hid (HX.out.pure hb)
      clear hb
      have x0 := cell0 HX.out; have x1 := cell1 HX.out; have x2 := cell2 HX.out; have x3 := cell3 HX.out
      have HK := Lib.hid (Blk.new wn 23 #[.int .i64 a, .int .i64 b, .int .i64 d, .int .i64 g])
      clear x0 x1 x2 x3
      replace HB := Lib.hid (HB.out.alloc HB.out.size (.cells #[.int .i64 a, .int .i64 b, .int .i64 d, .int .i64 g] 23))
      replace HO := Lib.hid (HO.out.pure ((Below.refl _ _).alloc (Nat.le_refl _) (.cells #[.int .i64 a, .int .i64 b, .int .i64 d, .int .i64 g] 23)))
      replace HM := Lib.hid (HM.out.alloc (.cells #[.int .i64 a, .int .i64 b, .int .i64 d, .int .i64 g] 23))
      replace HX := Lib.hid (HX.out.alloc (.cells #[.int .i64 a, .int .i64 b, .int .i64 d, .int .i64 g] 23))
      have x0 := cell0 HX.out; have x1 := cell1 HX.out; have x2 := cell2 HX.out; have x3 := cell3 HX.out
      go_wp2_with fail
      go_at_call 38
      refine (rat_is A1 M c1 p q t v i a b d g er l _ HO.out hM40 H1.out H2.out H3.out H4.out H5.out).mono ?_
      rintro e wm ⟨rfl, hb⟩
      clear x0 x1 x2 x3
      replace HB := Lib.hid (pure_below HB.out hb); replace HO := Lib.hid (HO.out.pure hb); replace HM := Lib.hid (HM.out.pure hb); replace HX := Lib.hid (HX.out.pure hb)
      replace HK := Lib.hid (HK.out.pure hb)
      clear hb
      have x0 := cell0 HX.out; have x1 := cell1 HX.out; have x2 := cell2 HX.out; have x3 := cell3 HX.out
      clear x0 x1 x2 x3
      replace HB := Lib.hid (HB.out.alloc HB.out.size (.cells #[.int .i64 a, .int .i64 b, .int .i64 d, .int .i64 g] 23))
      replace HO := Lib.hid (HO.out.pure ((Below.refl _ _).alloc (Nat.le_refl _) (.cells #[.int .i64 a, .int .i64 b, .int .i64 d, .int .i64 g] 23)))
      replace HM := Lib.hid (HM.out.alloc (.cells #[.int .i64 a, .int .i64 b, .int .i64 d, .int .i64 g] 23))
      replace HX := Lib.hid (HX.out.alloc (.cells #[.int .i64 a, .int .i64 b, .int .i64 d, .int .i64 g] 23))
      have x0 := cell0 HX.out; have x1 := cell1 HX.out; have x2 := cell2 HX.out; have x3 := cell3 HX.out
      have y0 := cell0 HK.out
      have y1 := cell1 HK.out
      have y2 := cell2 HK.out
      have y3 := cell3 HK.out
      have hlt := HK.out.lt
      clear HK
      go_wp2_with fail
      go_at_call 39
      refine (eqb_spec A1 A M M c1 c _ _ _ HO.out HM.out).mono ?_
      rw [eqB_self]
      rintro e w' ⟨rfl, rfl⟩
      clear x0 x1 x2 x3 y0 y1 y2 y3
      go_wp2_with fail
      go_at_call 40
      refine (liworks_spec _).mono ?_
      rintro e w9 ⟨rfl, hb⟩
      replace HB := Lib.hid (pure_below HB.out hb)
      clear hb
      go_wp2
      go_ret
      exact ⟨rfl, HB.out⟩
open Go.ChangeShapes Go.WideShapes Go.ChangeAt
set_option maxRecDepth 100000 in
theorem listTells_run {H : Type} {enc : TypeId × Value → H} {v0 v1 v2 : Value} {d0 d1 d2 : DataW H} {p0 p1 p2 : List MemPlace} (W : World) (base : Nat) (k0 : Value.okWide Try.prog W .any base 25 v0) (k1 : Value.okWide Try.prog W .any base 23 v1) (k2 : Value.okWide Try.prog W .any base 3 v2)
    (h0 : DataW.Trod enc Try.prog W 0 (fun _ => true) true 25 v0 d0 p0) (h1 : DataW.Trod enc Try.prog W 0 (fun _ => true) true 23 v1 d1 p1) (h2 : DataW.Trod enc Try.prog W 0 (fun _ => true) true 3 v2 d2 p2) :
    Calls Try.prog 7 #[v0, v1, v2] W fun e w' => e = .returned (.bool true) ∧ Below W.heap.size W w' := by
  obtain ⟨A, n, c, l, rfl, hI, hc, _⟩ := bytes_arg k0 h0
  obtain ⟨p, q, t, v, rfl, _⟩ := ref_arg k1 h1
  obtain ⟨i, rfl, _⟩ := int_arg k2 h2
  exact listtells_spec A n c p q t v i l W hI hc

set_option maxRecDepth 100000 in
theorem listTells_lifted (os : Os) (started : os.Started) (H : Type) (enc : TypeId × Value → H) :
    ReturnsInHanded {} Try.checked os 7 .any (Rows.listTellsSpec.pre6 enc Try.prog Try.f7 Rows.listTellsRow.domain false) (Rows.listTellsSpec.post enc Try.prog Try.f7 false true false false) := by
  refine returnsInHanded_of_change (C := Try.checked) acc_own started (by kernel_rfl) Try.func7
    (ChangeSpec.witness6 (enc := enc) (C := Try.checked) false ⟨#[], #[.slice none 0 0, .agg #[.int .i64 0, .int .i64 0, .int .i64 0, .int .i64 0], .int .i64 0], []⟩ 8 (by kernel_rfl) (by kernel_rfl) (by kernel_rfl) (by kernel_rfl)) ?_
  intro W base args ds gs before hval0 hW hcnd _
  have hval : ∀ (j : Nat) t v, Try.f7.params[j]? = some t → args[j]? = some v → Value.okWide Try.prog W .any base t v := hval0
  have hW' := hW
  obtain ⟨p, q, hA0, hV, rfl, hfz, hnd⟩ := hW
  have hA : DataW.TrodAll enc Try.prog W 0 (fun _ => true) true Try.f7.params.toList args.toList ds p := hA0
  rw [Try.params7] at hA
  rw [Try.params7] at hval
  obtain ⟨v0, vs0, d0, ds0, p0, q0, hargs, rfl, rfl, h0, r0⟩ := trodAll_cons hA
  obtain ⟨v1, vs1, d1, ds1, p1, q1, rfl, rfl, rfl, h1, r1⟩ := trodAll_cons r0
  obtain ⟨v2, vs2, d2, ds2, p2, q2, rfl, rfl, rfl, h2, r2⟩ := trodAll_cons r1
  obtain ⟨rfl, rfl, rfl⟩ := trodAll_nil r2
  obtain rfl : args = #[v0, v1, v2] := by cases args; simp_all
  obtain ⟨rfl, rfl⟩ := trodVars_none hV
  have k0 := hval 0 25 v0 rfl rfl
  have k1 := hval 1 23 v1 rfl rfl
  have k2 := hval 2 3 v2 rfl rfl
  clear hA0 hval0
  refine (listTells_run (enc := enc) W base k0 k1 k2 h0 h1 h2).mono fun e W' ⟨he, bel⟩ => ?_
  subst he
  exact ⟨_, rfl, _, _, _, [], _, [], hW', trodAll_mk1 (shut_bool Try.underlying4 _), (trodAll_cons_mk (below_arg acc_laidOut (by kernel_rfl) (of_decide_eq_true (by kernel_rfl)) h0 bel) (trodAll_cons_mk (below_arg acc_laidOut (by kernel_rfl) (of_decide_eq_true (by kernel_rfl)) h1 bel) (trodAll_cons_mk (below_arg acc_laidOut (by kernel_rfl) (of_decide_eq_true (by kernel_rfl)) h2 bel) trodAll_mk0))), rfl, bel.frame _, fun h => by cases h⟩

theorem listTells_holds : Rows.ListTellsSaid :=
  OpenClaim.holds_of_wide 7 Try.f7 rfl rfl rfl rfl rfl rfl rfl ⟨rfl, rfl, rfl, rfl, rfl⟩ rfl rfl rfl rfl rfl (by kernel_rfl) Try.func7 (by kernel_rfl)
    (of_decide_eq_true (by kernel_rfl)) (by unfold Func.isWrapper; rw [if_neg (of_decide_eq_false (by kernel_rfl))]; exact ⟨rfl, rfl⟩)
    (fun os started H enc _ => listTells_lifted os started H enc)
#print axioms listTells_holds
end Go.Proofs.Ytaigofpipoimkaa
