/-
  Package find: the properties FindKeys and FindFinds.
-/
import Derived.Test.YtaigofpipoimkaaFiI
import Derived.Test.YtaigofpipoimkaaRefRow
import Derived.Test.YtaigofpipoimkaaCut
namespace Go.Proofs.Ytaigofpipoimkaa
open Go.RowKit Go.Acc
set_option maxRecDepth 100000 in
set_option maxHeartbeats 4000000 in
theorem findkeys_spec (A : Option Addr) (n c : Nat) (p q t v i : Int) (l : List UInt8) (w : World) (h : IsB w A n l) (hc : n ≤ c) :
    Calls Try.prog 11 #[.slice A n c, .agg #[.int .i64 p, .int .i64 q, .int .i64 t, .int .i64 v], .int .i64 i] w fun e w' => e = .returned (.bool true) ∧ Below w.heap.size w w' := by
  obtain ⟨M, hMn, hMB, hmin, hcut⟩ := cut_facts A n c 600 600 rfl hc
  have HM := Lib.hid ((h.take bc_len hMn).alloc (.cells #[.int .i64 p, .int .i64 q, .int .i64 t, .int .i64 v] 23))
  have HB := Lib.hid ((Below.refl w.heap.size w).alloc (Nat.le_refl _) (.cells #[.int .i64 p, .int .i64 q, .int .i64 t, .int .i64 v] 23))
  have HX := Lib.hid (Blk.new w 23 #[.int .i64 p, .int .i64 q, .int .i64 t, .int .i64 v])
  clear h
  go_enter Try.func11, Try.ntmps11
  go_wp2_with fail
  go_at_call 15
  refine (copyb_spec A M c (l.take M) _ HM.out (by omega)).mono ?_
  rintro e w1 ⟨A1, n1, c1, rfl, hO1, hb1⟩
  obtain rfl : M = n1 := by rw [← hO1.1, HM.out.1]
  have hlen := HM.out.1
  generalize l.take M = l at hO1 hlen HM
  replace HB := Lib.hid (pure_below HB.out hb1)
  have HO := Lib.hid hO1.is
  replace HM := Lib.hid (HM.out.pure hb1)
  replace HX := Lib.hid (HX.out.pure hb1)
  have hc1 := hO1.cap.1
  have x0 := cell0 HX.out; have x1 := cell1 HX.out; have x2 := cell2 HX.out; have x3 := cell3 HX.out
  have hM40 : M ≤ 1099511627776 := by omega
  clear hO1 hb1 hlen
  obtain ⟨a, ha⟩ : ∃ x, kyP l p q t v = x := ⟨_, rfl⟩
  obtain ⟨b, hb⟩ : ∃ x, kyQ l p q t v = x := ⟨_, rfl⟩
  obtain ⟨d, hd⟩ : ∃ x, kyT l p q t v = x := ⟨_, rfl⟩
  obtain ⟨g, hg⟩ : ∃ x, kyV l p q t v = x := ⟨_, rfl⟩
  obtain ⟨er, her⟩ : ∃ x, kyE l p q t v = x := ⟨_, rfl⟩
  have H1 := Lib.hid ha
  have H2 := Lib.hid hb
  have H3 := Lib.hid hd
  have H4 := Lib.hid hg
  have H5 := Lib.hid her
  clear ha hb hd hg her
  go_wp2_with fail
  go_at_call 47
  refine (fkeys_is A1 M c1 p q t v a b d g er l _ HO.out hc1 hM40 H1.out H2.out H3.out H4.out H5.out).mono ?_
  rintro e wn ⟨rfl, hb⟩
  clear x0 x1 x2 x3
  replace HB := Lib.hid (pure_below HB.out hb); replace HO := Lib.hid (HO.out.pure hb); replace HM := Lib.hid (HM.out.pure hb); replace HX := Lib.hid (HX.out.pure hb)
  clear hb
  have x0 := cell0 HX.out; have x1 := cell1 HX.out; have x2 := cell2 HX.out; have x3 := cell3 HX.out
  have HK := Lib.hid (Blk.new wn 23 #[.int .i64 a, .int .i64 b, .int .i64 d, .int .i64 g])
  clear x0 x1 x2 x3
  replace HB := Lib.hid (HB.out.alloc HB.out.size (.cells #[.int .i64 a, .int .i64 b, .int .i64 d, .int .i64 g] 23))
  replace HO := Lib.hid (HO.out.alloc (.cells #[.int .i64 a, .int .i64 b, .int .i64 d, .int .i64 g] 23))
  replace HM := Lib.hid (HM.out.alloc (.cells #[.int .i64 a, .int .i64 b, .int .i64 d, .int .i64 g] 23))
  replace HX := Lib.hid (HX.out.alloc (.cells #[.int .i64 a, .int .i64 b, .int .i64 d, .int .i64 g] 23))
  have x0 := cell0 HX.out; have x1 := cell1 HX.out; have x2 := cell2 HX.out; have x3 := cell3 HX.out
  go_wp2_with fail
  go_at_call 48
  refine (rfkeys_is A1 M c1 p q t v a b d g er l _ HO.out hM40 H1.out H2.out H3.out H4.out H5.out).mono ?_
  rintro e wm ⟨rfl, hb⟩
  clear x0 x1 x2 x3
  replace HB := Lib.hid (pure_below HB.out hb); replace HO := Lib.hid (HO.out.pure hb); replace HM := Lib.hid (HM.out.pure hb); replace HX := Lib.hid (HX.out.pure hb)
  replace HK := Lib.hid (HK.out.pure hb)
  clear hb
  have x0 := cell0 HX.out; have x1 := cell1 HX.out; have x2 := cell2 HX.out; have x3 := cell3 HX.out
  clear x0 x1 x2 x3
  replace HB := Lib.hid (HB.out.alloc HB.out.size (.cells #[.int .i64 a, .int .i64 b, .int .i64 d, .int .i64 g] 23))
  replace HO := Lib.hid (HO.out.alloc (.cells #[.int .i64 a, .int .i64 b, .int .i64 d, .int .i64 g] 23))
  replace HM := Lib.hid (HM.out.alloc (.cells #[.int .i64 a, .int .i64 b, .int .i64 d, .int .i64 g] 23))
  replace HX := Lib.hid (HX.out.alloc (.cells #[.int .i64 a, .int .i64 b, .int .i64 d, .int .i64 g] 23))
  have x0 := cell0 HX.out; have x1 := cell1 HX.out; have x2 := cell2 HX.out; have x3 := cell3 HX.out
  have y0 := cell0 HK.out
  have y1 := cell1 HK.out
  have y2 := cell2 HK.out
  have y3 := cell3 HK.out
  have hlt := HK.out.lt
  clear HK
  go_wp2_with fail
  clear x0 x1 x2 x3 y0 y1 y2 y3 hlt
  go_loopw [12] (fun k wr => ∃ j : Nat, j ≤ 10 ∧ k = .int .i64 ((j : Int) - 1) ∧ Below w.heap.size w wr ∧ IsB wr A1 M l ∧ IsB wr A M l ∧ Blk wr w.heap.size 23 #[.int .i64 p, .int .i64 q, .int .i64 t, .int .i64 v]) (fun k _ => (9 - (intOf k)).toNat)
  case atStart => exact ⟨0, by omega, rfl, HB.out, HO.out, HM.out, HX.out⟩
  case round =>
    obtain ⟨j, hj, rfl, hB', hO', hM', hX'⟩ := hrel
    clear HB HO HM HX
    have HB := Lib.hid hB'
    have HO := Lib.hid hO'
    have HM := Lib.hid hM'
    have HX := Lib.hid hX'
    clear hB' hO' hM' hX'
    by_cases hlt : j < 10
    · have hd0 : (j : Int) - 1 < 9 := by omega
      have x0 := cell0 HX.out; have x1 := cell1 HX.out; have x2 := cell2 HX.out; have x3 := cell3 HX.out
      obtain ⟨s, hs⟩ : ∃ x, kaS l p q t v ((j : Int) - 1) = x := ⟨_, rfl⟩
      obtain ⟨ee, hee⟩ : ∃ x, kaE l p q t v ((j : Int) - 1) = x := ⟨_, rfl⟩
      have HS := Lib.hid hs
      have HE := Lib.hid hee
      clear hs hee
      go_wp2_with fail
      go_at_call 49
      refine (fkeyat_is A1 M c1 p q t v ((j : Int) - 1) ee s l _ HO.out hc1 hM40 HS.out HE.out).mono ?_
      rintro e wn ⟨rfl, hb⟩
      clear x0 x1 x2 x3
      replace HB := Lib.hid (pure_below HB.out hb); replace HO := Lib.hid (HO.out.pure hb); replace HM := Lib.hid (HM.out.pure hb); replace HX := Lib.hid (HX.out.pure hb)
      clear hb
      have x0 := cell0 HX.out; have x1 := cell1 HX.out; have x2 := cell2 HX.out; have x3 := cell3 HX.out
      go_wp2_with fail
      go_at_call 50
      refine (rkeyat_ka A1 M c1 p q t v ((j : Int) - 1) ee s l _ HO.out hc1 hM40 HS.out HE.out).mono ?_
      rintro e wn ⟨rfl, hb⟩
      clear x0 x1 x2 x3
      replace HB := Lib.hid (pure_below HB.out hb); replace HO := Lib.hid (HO.out.pure hb); replace HM := Lib.hid (HM.out.pure hb); replace HX := Lib.hid (HX.out.pure hb)
      clear hb
      have x0 := cell0 HX.out; have x1 := cell1 HX.out; have x2 := cell2 HX.out; have x3 := cell3 HX.out
      clear x0 x1 x2 x3
      go_wp2
      go_roundw
      case rel => exact ⟨j + 1, by omega, by go_num, HB.out, HO.out, HM.out, HX.out⟩
      case measure => simp [intOf]; omega
    · obtain rfl : j = 10 := by omega
      have x0 := cell0 HX.out; have x1 := cell1 HX.out; have x2 := cell2 HX.out; have x3 := cell3 HX.out
      obtain ⟨s, hs⟩ : ∃ x, kaS l p q t v i = x := ⟨_, rfl⟩
      obtain ⟨ee, hee⟩ : ∃ x, kaE l p q t v i = x := ⟨_, rfl⟩
      have HS := Lib.hid hs
      have HE := Lib.hid hee
      clear hs hee
      go_wp2_with fail
      go_at_call 49
      refine (fkeyat_is A1 M c1 p q t v i ee s l _ HO.out hc1 hM40 HS.out HE.out).mono ?_
      rintro e wn ⟨rfl, hb⟩
      clear x0 x1 x2 x3
      replace HB := Lib.hid (pure_below HB.out hb); replace HO := Lib.hid (HO.out.pure hb); replace HM := Lib.hid (HM.out.pure hb); replace HX := Lib.hid (HX.out.pure hb)
      clear hb
      have x0 := cell0 HX.out; have x1 := cell1 HX.out; have x2 := cell2 HX.out; have x3 := cell3 HX.out
      go_wp2_with fail
      go_at_call 50
      refine (rkeyat_ka A1 M c1 p q t v i ee s l _ HO.out hc1 hM40 HS.out HE.out).mono ?_
      rintro e wn ⟨rfl, hb⟩
      clear x0 x1 x2 x3
      replace HB := Lib.hid (pure_below HB.out hb); replace HO := Lib.hid (HO.out.pure hb); replace HM := Lib.hid (HM.out.pure hb); replace HX := Lib.hid (HX.out.pure hb)
      clear hb
      have x0 := cell0 HX.out; have x1 := cell1 HX.out; have x2 := cell2 HX.out; have x3 := cell3 HX.out
      clear x0 x1 x2 x3
      go_wp2_with fail
      go_at_call 39
      refine (eqb_spec A1 A M M c1 c _ _ _ HO.out HM.out).mono ?_
      rw [eqB_self]
      rintro e w' ⟨rfl, rfl⟩
      clear HX HM
      go_wp2_with fail
      go_at_call 51
      refine (fiworks_spec _).mono ?_
      rintro e w9 ⟨rfl, hb⟩
      replace HB := Lib.hid (pure_below HB.out hb)
      clear hb
      go_wp2
      go_ret
      exact ⟨rfl, HB.out⟩
set_option maxRecDepth 100000 in
set_option maxHeartbeats 4000000 in
theorem findfinds_spec (A : Option Addr) (n c : Nat) (p q t v : Int) (l k : List UInt8) (w : World) (h : IsB w A n l) (hc : n ≤ c) :
    Calls Try.prog 12 #[.slice A n c, .agg #[.int .i64 p, .int .i64 q, .int .i64 t, .int .i64 v], .string ⟨k.toArray⟩] w fun e w' => e = .returned (.bool true) ∧ Below w.heap.size w w' := by
  obtain ⟨M, hMn, hMB, hmin, hcut⟩ := cut_facts A n c 600 600 rfl hc
  have HM := Lib.hid ((h.take bc_len hMn).alloc (.cells #[.int .i64 p, .int .i64 q, .int .i64 t, .int .i64 v] 23))
  have HB := Lib.hid ((Below.refl w.heap.size w).alloc (Nat.le_refl _) (.cells #[.int .i64 p, .int .i64 q, .int .i64 t, .int .i64 v] 23))
  have HX := Lib.hid (Blk.new w 23 #[.int .i64 p, .int .i64 q, .int .i64 t, .int .i64 v])
  clear h
  go_enter Try.func12, Try.ntmps12
  go_wp2_with fail
  go_at_call 15
  refine (copyb_spec A M c (l.take M) _ HM.out (by omega)).mono ?_
  rintro e w1 ⟨A1, n1, c1, rfl, hO1, hb1⟩
  obtain rfl : M = n1 := by rw [← hO1.1, HM.out.1]
  have hlen := HM.out.1
  generalize l.take M = l at hO1 hlen HM
  replace HB := Lib.hid (pure_below HB.out hb1)
  have HO := Lib.hid hO1.is
  replace HM := Lib.hid (HM.out.pure hb1)
  replace HX := Lib.hid (HX.out.pure hb1)
  have hc1 := hO1.cap.1
  have x0 := cell0 HX.out; have x1 := cell1 HX.out; have x2 := cell2 HX.out; have x3 := cell3 HX.out
  have hM40 : M ≤ 1099511627776 := by omega
  clear hO1 hb1 hlen
  go_wp2_with fail
  go_at_call 52
  refine (short_spec k _).mono ?_
  rintro e w2 ⟨rfl, rfl⟩
  have hkl : (k.take 60).length ≤ 9223372036854775807 := by have := List.length_take_le 60 k; omega
  generalize k.take 60 = k at hkl ⊢
  have HKL := Lib.hid hkl
  clear hkl
  obtain ⟨a, ha⟩ : ∃ x, fdP l k p q t v = x := ⟨_, rfl⟩
  obtain ⟨b, hb⟩ : ∃ x, fdQ l k p q t v = x := ⟨_, rfl⟩
  obtain ⟨d, hd⟩ : ∃ x, fdT l k p q t v = x := ⟨_, rfl⟩
  obtain ⟨g, hg⟩ : ∃ x, fdV l k p q t v = x := ⟨_, rfl⟩
  obtain ⟨is, his⟩ : ∃ x, fdB l k p q t v = x := ⟨_, rfl⟩
  obtain ⟨er, her⟩ : ∃ x, fdE l k p q t v = x := ⟨_, rfl⟩
  have H1 := Lib.hid ha
  have H2 := Lib.hid hb
  have H3 := Lib.hid hd
  have H4 := Lib.hid hg
  have H5 := Lib.hid his
  have H6 := Lib.hid her
  clear ha hb hd hg his her
  go_wp2_with fail
  go_at_call 53
  refine (ffind_is A1 M c1 p q t v a b d g er is l k _ HO.out hc1 hM40 H1.out H2.out H3.out H4.out H5.out H6.out).mono ?_
  rintro e wn ⟨rfl, hb⟩
  clear x0 x1 x2 x3
  replace HB := Lib.hid (pure_below HB.out hb); replace HO := Lib.hid (HO.out.pure hb); replace HM := Lib.hid (HM.out.pure hb); replace HX := Lib.hid (HX.out.pure hb)
  clear hb
  have x0 := cell0 HX.out; have x1 := cell1 HX.out; have x2 := cell2 HX.out; have x3 := cell3 HX.out
  have HK := Lib.hid (Blk.new wn 23 #[.int .i64 a, .int .i64 b, .int .i64 d, .int .i64 g])
  clear x0 x1 x2 x3
  replace HB := Lib.hid (HB.out.alloc HB.out.size (.cells #[.int .i64 a, .int .i64 b, .int .i64 d, .int .i64 g] 23))
  replace HO := Lib.hid (HO.out.alloc (.cells #[.int .i64 a, .int .i64 b, .int .i64 d, .int .i64 g] 23))
  replace HM := Lib.hid (HM.out.alloc (.cells #[.int .i64 a, .int .i64 b, .int .i64 d, .int .i64 g] 23))
  replace HX := Lib.hid (HX.out.alloc (.cells #[.int .i64 a, .int .i64 b, .int .i64 d, .int .i64 g] 23))
  have x0 := cell0 HX.out; have x1 := cell1 HX.out; have x2 := cell2 HX.out; have x3 := cell3 HX.out
  go_wp2_with fail
  go_at_call 54
  refine (rfind_is A1 M c1 p q t v a b d g er is l k _ HO.out hc1 hM40 HKL.out H1.out H2.out H3.out H4.out H5.out H6.out).mono ?_
  rintro e wm ⟨rfl, hb⟩
  clear x0 x1 x2 x3
  replace HB := Lib.hid (pure_below HB.out hb); replace HO := Lib.hid (HO.out.pure hb); replace HM := Lib.hid (HM.out.pure hb); replace HX := Lib.hid (HX.out.pure hb)
  replace HK := Lib.hid (HK.out.pure hb)
  clear hb
  have x0 := cell0 HX.out; have x1 := cell1 HX.out; have x2 := cell2 HX.out; have x3 := cell3 HX.out
  clear x0 x1 x2 x3
  replace HB := Lib.hid (HB.out.alloc HB.out.size (.cells #[.int .i64 a, .int .i64 b, .int .i64 d, .int .i64 g] 23))
  replace HO := Lib.hid (HO.out.alloc (.cells #[.int .i64 a, .int .i64 b, .int .i64 d, .int .i64 g] 23))
  replace HM := Lib.hid (HM.out.alloc (.cells #[.int .i64 a, .int .i64 b, .int .i64 d, .int .i64 g] 23))
  replace HX := Lib.hid (HX.out.alloc (.cells #[.int .i64 a, .int .i64 b, .int .i64 d, .int .i64 g] 23))
  have x0 := cell0 HX.out; have x1 := cell1 HX.out; have x2 := cell2 HX.out; have x3 := cell3 HX.out
  have y0 := cell0 HK.out
  have y1 := cell1 HK.out
  have y2 := cell2 HK.out
  have y3 := cell3 HK.out
  have hlt := HK.out.lt
  clear HK
  go_wp2_with fail
  go_at_call 39
  refine (eqb_spec A1 A M M c1 c _ _ _ HO.out HM.out).mono ?_
  rw [eqB_self]
  rintro e w' ⟨rfl, rfl⟩
  clear HX HM
  go_wp2_with fail
  go_at_call 51
  refine (fiworks_spec _).mono ?_
  rintro e w9 ⟨rfl, hb⟩
  replace HB := Lib.hid (pure_below HB.out hb)
  clear hb
  go_wp2
  go_ret
  exact ⟨rfl, HB.out⟩

open Go.ChangeShapes Go.WideShapes Go.ChangeAt
set_option maxRecDepth 100000 in
theorem str_arg {H : Type} {enc : TypeId × Value → H} {W : World} {base : Nat} {v : Value} {d : DataW H} {p : List MemPlace} (k : Value.okWide Try.prog W .any base 9 v) (h : DataW.Trod enc Try.prog W 0 (fun _ => true) true 9 v d p) :
    ∃ s : List UInt8, v = .string ⟨s.toArray⟩ ∧ s.length ≤ 9223372036854775807 := by
  obtain ⟨s, rfl⟩ := okWide_string Try.underlying9 k
  obtain ⟨f, hf⟩ := h
  obtain ⟨s', e, _, hs⟩ := DataW.trod_string Try.underlying9 hf
  obtain rfl : s = s' := by simpa [Value.cells] using e
  simp only [maxLen] at hs
  exact ⟨s.data.toList, rfl, by have : s.data.toList.length = s.size := rfl; omega⟩
set_option maxRecDepth 100000 in
theorem findKeys_run {H : Type} {enc : TypeId × Value → H} {v0 v1 v2 : Value} {d0 d1 d2 : DataW H} {p0 p1 p2 : List MemPlace} (W : World) (base : Nat) (k0 : Value.okWide Try.prog W .any base 25 v0) (k1 : Value.okWide Try.prog W .any base 23 v1) (k2 : Value.okWide Try.prog W .any base 3 v2)
    (h0 : DataW.Trod enc Try.prog W 0 (fun _ => true) true 25 v0 d0 p0) (h1 : DataW.Trod enc Try.prog W 0 (fun _ => true) true 23 v1 d1 p1) (h2 : DataW.Trod enc Try.prog W 0 (fun _ => true) true 3 v2 d2 p2) :
    Calls Try.prog 11 #[v0, v1, v2] W fun e w' => e = .returned (.bool true) ∧ Below W.heap.size W w' := by
  obtain ⟨A, n, c, l, rfl, hI, hc, _⟩ := bytes_arg k0 h0
  obtain ⟨p, q, t, v, rfl, _⟩ := ref_arg k1 h1
  obtain ⟨i, rfl, _⟩ := int_arg k2 h2
  exact findkeys_spec A n c p q t v i l W hI hc
set_option maxRecDepth 100000 in
theorem findFinds_run {H : Type} {enc : TypeId × Value → H} {v0 v1 v2 : Value} {d0 d1 d2 : DataW H} {p0 p1 p2 : List MemPlace} (W : World) (base : Nat) (k0 : Value.okWide Try.prog W .any base 25 v0) (k1 : Value.okWide Try.prog W .any base 23 v1) (k2 : Value.okWide Try.prog W .any base 9 v2)
    (h0 : DataW.Trod enc Try.prog W 0 (fun _ => true) true 25 v0 d0 p0) (h1 : DataW.Trod enc Try.prog W 0 (fun _ => true) true 23 v1 d1 p1) (h2 : DataW.Trod enc Try.prog W 0 (fun _ => true) true 9 v2 d2 p2) :
    Calls Try.prog 12 #[v0, v1, v2] W fun e w' => e = .returned (.bool true) ∧ Below W.heap.size W w' := by
  obtain ⟨A, n, c, l, rfl, hI, hc, _⟩ := bytes_arg k0 h0
  obtain ⟨p, q, t, v, rfl, _⟩ := ref_arg k1 h1
  obtain ⟨s, rfl, _⟩ := str_arg k2 h2
  exact findfinds_spec A n c p q t v l s W hI hc

set_option maxRecDepth 100000 in
theorem findKeys_lifted (os : Os) (started : os.Started) (H : Type) (enc : TypeId × Value → H) :
    ReturnsInHanded {} Try.checked os 11 .any (Rows.findKeysSpec.pre6 enc Try.prog Try.f11 Rows.findKeysRow.domain false) (Rows.findKeysSpec.post enc Try.prog Try.f11 false true false false) := by
  refine returnsInHanded_of_change (C := Try.checked) acc_own started (by kernel_rfl) Try.func11
    (ChangeSpec.witness6 (enc := enc) (C := Try.checked) false ⟨#[], #[.slice none 0 0, .agg #[.int .i64 0, .int .i64 0, .int .i64 0, .int .i64 0], .int .i64 0], []⟩ 8 (by kernel_rfl) (by kernel_rfl) (by kernel_rfl) (by kernel_rfl)) ?_
  intro W base args ds gs before hval0 hW hcnd _
  have hval : ∀ (j : Nat) t v, Try.f11.params[j]? = some t → args[j]? = some v → Value.okWide Try.prog W .any base t v := hval0
  have hW' := hW
  obtain ⟨p, q, hA0, hV, rfl, hfz, hnd⟩ := hW
  have hA : DataW.TrodAll enc Try.prog W 0 (fun _ => true) true Try.f11.params.toList args.toList ds p := hA0
  rw [Try.params11] at hA
  rw [Try.params11] at hval
  obtain ⟨v0, vs0, d0, ds0, p0, q0, hargs, rfl, rfl, h0, r0⟩ := trodAll_cons hA
  obtain ⟨v1, vs1, d1, ds1, p1, q1, rfl, rfl, rfl, h1, r1⟩ := trodAll_cons r0
  obtain ⟨v2, vs2, d2, ds2, p2, q2, rfl, rfl, rfl, h2, r2⟩ := trodAll_cons r1
  obtain ⟨rfl, rfl, rfl⟩ := trodAll_nil r2
  obtain rfl : args = #[v0, v1, v2] := by cases args; simp_all
  obtain ⟨rfl, rfl⟩ := trodVars_none hV
  have k0 := hval 0 25 v0 rfl rfl
  have k1 := hval 1 23 v1 rfl rfl
  have k2 := hval 2 3 v2 rfl rfl
  clear hA0 hval0
  refine (findKeys_run (enc := enc) W base k0 k1 k2 h0 h1 h2).mono fun e W' ⟨he, bel⟩ => ?_
  subst he
  exact ⟨_, rfl, _, _, _, [], _, [], hW', trodAll_mk1 (shut_bool Try.underlying4 _), (trodAll_cons_mk (below_arg acc_laidOut (by kernel_rfl) (of_decide_eq_true (by kernel_rfl)) h0 bel) (trodAll_cons_mk (below_arg acc_laidOut (by kernel_rfl) (of_decide_eq_true (by kernel_rfl)) h1 bel) (trodAll_cons_mk (below_arg acc_laidOut (by kernel_rfl) (of_decide_eq_true (by kernel_rfl)) h2 bel) trodAll_mk0))), rfl, bel.frame _, fun h => by cases h⟩

theorem findKeys_holds : Rows.FindKeysSaid :=
  OpenClaim.holds_of_wide 11 Try.f11 rfl rfl rfl rfl rfl rfl rfl ⟨rfl, rfl, rfl, rfl, rfl⟩ rfl rfl rfl rfl rfl (by kernel_rfl) Try.func11 (by kernel_rfl)
    (of_decide_eq_true (by kernel_rfl)) (by unfold Func.isWrapper; rw [if_neg (of_decide_eq_false (by kernel_rfl))]; exact ⟨rfl, rfl⟩)
    (fun os started H enc _ => findKeys_lifted os started H enc)
#print axioms findKeys_holds
set_option maxRecDepth 100000 in
theorem findFinds_lifted (os : Os) (started : os.Started) (H : Type) (enc : TypeId × Value → H) :
    ReturnsInHanded {} Try.checked os 12 .any (Rows.findFindsSpec.pre6 enc Try.prog Try.f12 Rows.findFindsRow.domain false) (Rows.findFindsSpec.post enc Try.prog Try.f12 false true false false) := by
  refine returnsInHanded_of_change (C := Try.checked) acc_own started (by kernel_rfl) Try.func12
    (ChangeSpec.witness6 (enc := enc) (C := Try.checked) false ⟨#[], #[.slice none 0 0, .agg #[.int .i64 0, .int .i64 0, .int .i64 0, .int .i64 0], .string ⟨#[]⟩], []⟩ 8 (by kernel_rfl) (by kernel_rfl) (by kernel_rfl) (by kernel_rfl)) ?_
  intro W base args ds gs before hval0 hW hcnd _
  have hval : ∀ (j : Nat) t v, Try.f12.params[j]? = some t → args[j]? = some v → Value.okWide Try.prog W .any base t v := hval0
  have hW' := hW
  obtain ⟨p, q, hA0, hV, rfl, hfz, hnd⟩ := hW
  have hA : DataW.TrodAll enc Try.prog W 0 (fun _ => true) true Try.f12.params.toList args.toList ds p := hA0
  rw [Try.params12] at hA
  rw [Try.params12] at hval
  obtain ⟨v0, vs0, d0, ds0, p0, q0, hargs, rfl, rfl, h0, r0⟩ := trodAll_cons hA
  obtain ⟨v1, vs1, d1, ds1, p1, q1, rfl, rfl, rfl, h1, r1⟩ := trodAll_cons r0
  obtain ⟨v2, vs2, d2, ds2, p2, q2, rfl, rfl, rfl, h2, r2⟩ := trodAll_cons r1
  obtain ⟨rfl, rfl, rfl⟩ := trodAll_nil r2
  obtain rfl : args = #[v0, v1, v2] := by cases args; simp_all
  obtain ⟨rfl, rfl⟩ := trodVars_none hV
  have k0 := hval 0 25 v0 rfl rfl
  have k1 := hval 1 23 v1 rfl rfl
  have k2 := hval 2 9 v2 rfl rfl
  clear hA0 hval0
  refine (findFinds_run (enc := enc) W base k0 k1 k2 h0 h1 h2).mono fun e W' ⟨he, bel⟩ => ?_
  subst he
  exact ⟨_, rfl, _, _, _, [], _, [], hW', trodAll_mk1 (shut_bool Try.underlying4 _), (trodAll_cons_mk (below_arg acc_laidOut (by kernel_rfl) (of_decide_eq_true (by kernel_rfl)) h0 bel) (trodAll_cons_mk (below_arg acc_laidOut (by kernel_rfl) (of_decide_eq_true (by kernel_rfl)) h1 bel) (trodAll_cons_mk (below_arg acc_laidOut (by kernel_rfl) (of_decide_eq_true (by kernel_rfl)) h2 bel) trodAll_mk0))), rfl, bel.frame _, fun h => by cases h⟩

theorem findFinds_holds : Rows.FindFindsSaid :=
  OpenClaim.holds_of_wide 12 Try.f12 rfl rfl rfl rfl rfl rfl rfl ⟨rfl, rfl, rfl, rfl, rfl⟩ rfl rfl rfl rfl rfl (by kernel_rfl) Try.func12 (by kernel_rfl)
    (of_decide_eq_true (by kernel_rfl)) (by unfold Func.isWrapper; rw [if_neg (of_decide_eq_false (by kernel_rfl))]; exact ⟨rfl, rfl⟩)
    (fun os started H enc _ => findFinds_lifted os started H enc)
#print axioms findFinds_holds
end Go.Proofs.Ytaigofpipoimkaa
