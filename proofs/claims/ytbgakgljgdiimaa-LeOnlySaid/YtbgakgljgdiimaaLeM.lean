/-
  Package le: the property LeOnly.
-/
import Derived.Test.YtbgakgljgdiimaaLeRow
import Derived.Test.YtbgakgljgdiimaaLeP
namespace Go.Proofs.Ytbgakgljgdiimaa
open Go.RowKit Go.Acc
set_option maxHeartbeats 1000000 in
theorem leonly_spec (A : Option Addr) (n c : Nat) (a x : Int) (l : List UInt8) (w : World) (h : IsB w A n l) (hc : n ≤ c) :
    Calls Try.prog 6 #[.slice A n c, .int .i64 a, .int .i64 x] w fun e w' => e = .returned (.bool true) ∧ Below w.heap.size w w' := by
  have HR := Lib.hid h
  clear h
  by_cases h300 : n ≤ 300
  · have HM := Lib.hid (HR.out.take bc_len (k := n) (by omega))
    clear HR
    have hlen := HM.out.1
    rcases load_cases (l.take (n)) a x with ⟨k, y, rfl, rfl, h1, h2, h3, h4, e1, e2⟩ | ⟨e1, e2, e3⟩
    · rw [hlen] at e1 h2
      have hpl : (((l.take (n)).drop k).take y).length = y := by rw [List.length_take, List.length_drop, hlen]; omega
      have hul := leVal_lt (((l.take (n)).drop k).take y)
      have hub := leBytes_leVal (((l.take (n)).drop k).take y)
      rw [hpl] at hul hub
      have e3 : loadI (l.take (n)) k y = sx y (leVal (((l.take (n)).drop k).take y)) := by
        unfold loadI
        rw [if_pos ⟨h1, by omega, by rw [hlen]; omega⟩, e2]
        rfl
      generalize hp : ((l.take (n)).drop k).take y = part at e2 e3 hpl hul hub
      generalize hu : leVal part = u at e2 e3 hul hub
      have HP := Shut.mk hp
      have E1 := Shut.mk e1
      have E2 := Shut.mk e2
      have E3 := Shut.mk e3
      have HW := Shut.mk h1
      have HUL := Shut.mk hul
      have HUB := Shut.mk hub
      have HLEN := Shut.mk hlen
      have ew : IntKind.i64.wrap ((k : Int) + y) = ((k + y : Nat) : Int) := by rw [IntWalk.i64_in _ (by omega)]; omega
      clear hp e1 e2 e3 h1 hul hub hu hpl hlen
      go_enter Try.func6, Try.ntmps6
      go_wp2_with fail
      go_at_call 10
      refine (copyb_spec A (n) c (l.take (n)) _ HM.out (by omega)).mono ?_
      rintro e w1 ⟨A1, n1, c1, rfl, hO1, hb1⟩
      obtain rfl : n = n1 := by rw [← hO1.1, HM.out.1]
      have HB := Lib.hid hb1
      have HI := Lib.hid hO1.is
      have hc1 := hO1.cap.1
      clear hO1 hb1
      go_wp2_with fail
      go_at_call 11
      refine (load_spec A1 (n) c1 k y _ _ HI.out hc1 (by omega)).mono ?_
      rw [E1.out, E2.out]
      rintro e w2 ⟨rfl, hb⟩
      have HB := Lib.hid (pure_below HB.out hb); have HI := Lib.hid (HI.out.pure hb)
      clear hb
      go_wp2_with fail
      go_at_call 13
      refine (loadi_spec A1 (n) c1 k y _ _ HI.out hc1 (by omega)).mono ?_
      rw [E1.out, E3.out]
      rintro e w3 ⟨rfl, hb⟩
      have HB := Lib.hid (pure_below HB.out hb); have HI := Lib.hid (HI.out.pure hb)
      clear hb
      go_wp2_with fail
      go_at_call 17
      refine (put_is none 0 0 u y u [] part 0 _ (Is.nil _ _) (by omega) (by omega) rfl (u_small HW.out HUL.out) ?_ ?_).mono ?_
      · rw [Int.toNat_natCast, fitsU_of HUL.out]
        simp [putB, HW.out, HUB.out]
      · rw [Int.toNat_natCast, fitsU_of HUL.out]
        simp [putE, HW.out]
      rintro e w4 ⟨AX, nX, cX, rfl, hOX, hb⟩
      have HB := Lib.hid (pure_below HB.out hb); have HI := Lib.hid (HI.out.pure hb)
      have HX := Lib.hid hOX.is
      clear hb hOX
      go_wp2_with fail
      go_at_call 19
      refine (puti_is none 0 0 (sx y u) y [] part 0 _ (Is.nil _ _) (by omega) (by omega) (sx_bd HW.out HUL.out) ?_ ?_).mono ?_
      · rw [Int.toNat_natCast, sx_fits HW.out HUL.out]
        simp [putB, HW.out, sx_bytes HW.out HUL.out, HUB.out]
      · rw [Int.toNat_natCast, sx_fits HW.out HUL.out]
        simp [putE, HW.out]
      rintro e w5 ⟨AY, nY, cY, rfl, hOY, hb⟩
      have HB := Lib.hid (pure_below HB.out hb); have HI := Lib.hid (HI.out.pure hb)
      have HX := Lib.hid (HX.out.pure hb)
      have HY := Lib.hid hOY.is
      clear hb hOY
      go_wp2_with fail
      have HPI := isb_part HI.out h2
      rw [HP.out] at HPI
      have HPI := Lib.hid HPI
      go_at_call 15
      refine (eqb_spec AX _ nX y cX (c1 - k) part part _ HX.out HPI.out).mono ?_
      rw [eqB_self]
      rintro e w' ⟨rfl, rfl⟩
      go_wp2_with fail
      go_at_call 15
      refine (eqb_spec AY AX nY nX cY cX part part _ HY.out HX.out).mono ?_
      rw [eqB_self]
      rintro e w' ⟨rfl, rfl⟩
      go_wp2_with fail
      go_at_call 16
      refine (works_spec _).mono ?_
      rintro e w7 ⟨rfl, hb⟩
      have HB := Lib.hid (pure_below HB.out hb); have HI := Lib.hid (HI.out.pure hb)
      clear hb
      go_wp2
      go_ret
      exact ⟨rfl, HB.out⟩
    · rw [hlen] at e1 e3
      have e4 : loadI (l.take (n)) a x = 0 := by
        unfold loadI
        rw [if_neg (by rw [hlen]; exact e3)]
      have e0 : (loadE (n) a x != 0) = true := by simpa using e1
      have E2 := Shut.mk e2
      have E3 := Shut.mk e4
      clear e1 e2 e3 e4 hlen
      go_enter Try.func6, Try.ntmps6
      go_wp2_with fail
      go_at_call 10
      refine (copyb_spec A (n) c (l.take (n)) _ HM.out (by omega)).mono ?_
      rintro e w1 ⟨A1, n1, c1, rfl, hO1, hb1⟩
      obtain rfl : n = n1 := by rw [← hO1.1, HM.out.1]
      have HB := Lib.hid hb1
      have HI := Lib.hid hO1.is
      have hc1 := hO1.cap.1
      clear hO1 hb1
      go_wp2_with fail
      go_at_call 11
      refine (load_spec A1 (n) c1 a x _ _ HI.out hc1 (by omega)).mono ?_
      rw [E2.out]
      rintro e w2 ⟨rfl, hb⟩
      have HB := Lib.hid (pure_below HB.out hb); have HI := Lib.hid (HI.out.pure hb)
      clear hb
      go_wp2_with fail
      go_at_call 13
      refine (loadi_spec A1 (n) c1 a x _ _ HI.out hc1 (by omega)).mono ?_
      rw [E3.out]
      rintro e w3 ⟨rfl, hb⟩
      have HB := Lib.hid (pure_below HB.out hb); have HI := Lib.hid (HI.out.pure hb)
      clear hb
      go_wp2_with fail
      go_at_call 16
      refine (works_spec _).mono ?_
      rintro e w7 ⟨rfl, hb⟩
      have HB := Lib.hid (pure_below HB.out hb); have HI := Lib.hid (HI.out.pure hb)
      clear hb
      go_wp2
      go_ret
      exact ⟨rfl, HB.out⟩
  · have h3 : 300 < n := by omega
    clear h300
    have HM := Lib.hid (HR.out.take bc_len (k := 300) (by omega))
    clear HR
    have hlen := HM.out.1
    rcases load_cases (l.take (300)) a x with ⟨k, y, rfl, rfl, h1, h2, h3, h4, e1, e2⟩ | ⟨e1, e2, e3⟩
    · rw [hlen] at e1 h2
      have hpl : (((l.take (300)).drop k).take y).length = y := by rw [List.length_take, List.length_drop, hlen]; omega
      have hul := leVal_lt (((l.take (300)).drop k).take y)
      have hub := leBytes_leVal (((l.take (300)).drop k).take y)
      rw [hpl] at hul hub
      have e3 : loadI (l.take (300)) k y = sx y (leVal (((l.take (300)).drop k).take y)) := by
        unfold loadI
        rw [if_pos ⟨h1, by omega, by rw [hlen]; omega⟩, e2]
        rfl
      generalize hp : ((l.take (300)).drop k).take y = part at e2 e3 hpl hul hub
      generalize hu : leVal part = u at e2 e3 hul hub
      have HP := Shut.mk hp
      have E1 := Shut.mk e1
      have E2 := Shut.mk e2
      have E3 := Shut.mk e3
      have HW := Shut.mk h1
      have HUL := Shut.mk hul
      have HUB := Shut.mk hub
      have HLEN := Shut.mk hlen
      have ew : IntKind.i64.wrap ((k : Int) + y) = ((k + y : Nat) : Int) := by rw [IntWalk.i64_in _ (by omega)]; omega
      clear hp e1 e2 e3 h1 hul hub hu hpl hlen
      go_enter Try.func6, Try.ntmps6
      go_wp2_with fail
      go_at_call 10
      refine (copyb_spec A (300) c (l.take (300)) _ HM.out (by omega)).mono ?_
      rintro e w1 ⟨A1, n1, c1, rfl, hO1, hb1⟩
      obtain rfl : 300 = n1 := by rw [← hO1.1, HM.out.1]
      have HB := Lib.hid hb1
      have HI := Lib.hid hO1.is
      have hc1 := hO1.cap.1
      clear hO1 hb1
      go_wp2_with fail
      go_at_call 11
      refine (load_spec A1 (300) c1 k y _ _ HI.out hc1 (by omega)).mono ?_
      rw [E1.out, E2.out]
      rintro e w2 ⟨rfl, hb⟩
      have HB := Lib.hid (pure_below HB.out hb); have HI := Lib.hid (HI.out.pure hb)
      clear hb
      go_wp2_with fail
      go_at_call 13
      refine (loadi_spec A1 (300) c1 k y _ _ HI.out hc1 (by omega)).mono ?_
      rw [E1.out, E3.out]
      rintro e w3 ⟨rfl, hb⟩
      have HB := Lib.hid (pure_below HB.out hb); have HI := Lib.hid (HI.out.pure hb)
      clear hb
      go_wp2_with fail
      go_at_call 17
      refine (put_is none 0 0 u y u [] part 0 _ (Is.nil _ _) (by omega) (by omega) rfl (u_small HW.out HUL.out) ?_ ?_).mono ?_
      · rw [Int.toNat_natCast, fitsU_of HUL.out]
        simp [putB, HW.out, HUB.out]
      · rw [Int.toNat_natCast, fitsU_of HUL.out]
        simp [putE, HW.out]
      rintro e w4 ⟨AX, nX, cX, rfl, hOX, hb⟩
      have HB := Lib.hid (pure_below HB.out hb); have HI := Lib.hid (HI.out.pure hb)
      have HX := Lib.hid hOX.is
      clear hb hOX
      go_wp2_with fail
      go_at_call 19
      refine (puti_is none 0 0 (sx y u) y [] part 0 _ (Is.nil _ _) (by omega) (by omega) (sx_bd HW.out HUL.out) ?_ ?_).mono ?_
      · rw [Int.toNat_natCast, sx_fits HW.out HUL.out]
        simp [putB, HW.out, sx_bytes HW.out HUL.out, HUB.out]
      · rw [Int.toNat_natCast, sx_fits HW.out HUL.out]
        simp [putE, HW.out]
      rintro e w5 ⟨AY, nY, cY, rfl, hOY, hb⟩
      have HB := Lib.hid (pure_below HB.out hb); have HI := Lib.hid (HI.out.pure hb)
      have HX := Lib.hid (HX.out.pure hb)
      have HY := Lib.hid hOY.is
      clear hb hOY
      go_wp2_with fail
      have HPI := isb_part HI.out h2
      rw [HP.out] at HPI
      have HPI := Lib.hid HPI
      go_at_call 15
      refine (eqb_spec AX _ nX y cX (c1 - k) part part _ HX.out HPI.out).mono ?_
      rw [eqB_self]
      rintro e w' ⟨rfl, rfl⟩
      go_wp2_with fail
      go_at_call 15
      refine (eqb_spec AY AX nY nX cY cX part part _ HY.out HX.out).mono ?_
      rw [eqB_self]
      rintro e w' ⟨rfl, rfl⟩
      go_wp2_with fail
      go_at_call 16
      refine (works_spec _).mono ?_
      rintro e w7 ⟨rfl, hb⟩
      have HB := Lib.hid (pure_below HB.out hb); have HI := Lib.hid (HI.out.pure hb)
      clear hb
      go_wp2
      go_ret
      exact ⟨rfl, HB.out⟩
    · rw [hlen] at e1 e3
      have e4 : loadI (l.take (300)) a x = 0 := by
        unfold loadI
        rw [if_neg (by rw [hlen]; exact e3)]
      have e0 : (loadE (300) a x != 0) = true := by simpa using e1
      have E2 := Shut.mk e2
      have E3 := Shut.mk e4
      clear e1 e2 e3 e4 hlen
      go_enter Try.func6, Try.ntmps6
      go_wp2_with fail
      go_at_call 10
      refine (copyb_spec A (300) c (l.take (300)) _ HM.out (by omega)).mono ?_
      rintro e w1 ⟨A1, n1, c1, rfl, hO1, hb1⟩
      obtain rfl : 300 = n1 := by rw [← hO1.1, HM.out.1]
      have HB := Lib.hid hb1
      have HI := Lib.hid hO1.is
      have hc1 := hO1.cap.1
      clear hO1 hb1
      go_wp2_with fail
      go_at_call 11
      refine (load_spec A1 (300) c1 a x _ _ HI.out hc1 (by omega)).mono ?_
      rw [E2.out]
      rintro e w2 ⟨rfl, hb⟩
      have HB := Lib.hid (pure_below HB.out hb); have HI := Lib.hid (HI.out.pure hb)
      clear hb
      go_wp2_with fail
      go_at_call 13
      refine (loadi_spec A1 (300) c1 a x _ _ HI.out hc1 (by omega)).mono ?_
      rw [E3.out]
      rintro e w3 ⟨rfl, hb⟩
      have HB := Lib.hid (pure_below HB.out hb); have HI := Lib.hid (HI.out.pure hb)
      clear hb
      go_wp2_with fail
      go_at_call 16
      refine (works_spec _).mono ?_
      rintro e w7 ⟨rfl, hb⟩
      have HB := Lib.hid (pure_below HB.out hb); have HI := Lib.hid (HI.out.pure hb)
      clear hb
      go_wp2
      go_ret
      exact ⟨rfl, HB.out⟩

open Go.ChangeShapes Go.WideShapes Go.ChangeAt
theorem leOnly_run {H : Type} {enc : TypeId × Value → H} {v0 v1 v2 : Value} {d0 d1 d2 : DataW H} {p0 p1 p2 : List MemPlace} (W : World) (base : Nat) (k0 : Value.okWide Try.prog W .any base 22 v0) (k1 : Value.okWide Try.prog W .any base 3 v1) (k2 : Value.okWide Try.prog W .any base 3 v2)
    (h0 : DataW.Trod enc Try.prog W 0 (fun _ => true) true 22 v0 d0 p0) (h1 : DataW.Trod enc Try.prog W 0 (fun _ => true) true 3 v1 d1 p1) (h2 : DataW.Trod enc Try.prog W 0 (fun _ => true) true 3 v2 d2 p2) :
    Calls Try.prog 6 #[v0, v1, v2] W fun e w' => e = .returned (.bool true) ∧ Below W.heap.size W w' := by
  obtain ⟨A, n, c, l, rfl, hI, hc, _⟩ := bytes_arg k0 h0
  obtain ⟨m1, rfl, _⟩ := int_arg k1 h1
  obtain ⟨m2, rfl, _⟩ := int_arg k2 h2
  exact leonly_spec A n c m1 m2 l W hI hc

set_option maxRecDepth 100000 in
theorem leOnly_lifted (os : Os) (started : os.Started) (H : Type) (enc : TypeId × Value → H) :
    ReturnsInHanded {} Try.checked os 6 .any (Rows.leOnlySpec.pre6 enc Try.prog Try.f6 Rows.leOnlyRow.domain false) (Rows.leOnlySpec.post enc Try.prog Try.f6 false true false false) := by
  refine returnsInHanded_of_change (C := Try.checked) acc_own started (by kernel_rfl) Try.func6
    (ChangeSpec.witness6 (enc := enc) (C := Try.checked) false ⟨#[], #[.slice none 0 0, .int .i64 0, .int .i64 0], []⟩ 8 (by kernel_rfl) (by kernel_rfl) (by kernel_rfl) (by kernel_rfl)) ?_
  intro W base args ds gs before hval0 hW hcnd _
  have hval : ∀ (j : Nat) t v, Try.f6.params[j]? = some t → args[j]? = some v → Value.okWide Try.prog W .any base t v := hval0
  have hW' := hW
  obtain ⟨p, q, hA0, hV, rfl, hfz, hnd⟩ := hW
  have hA : DataW.TrodAll enc Try.prog W 0 (fun _ => true) true Try.f6.params.toList args.toList ds p := hA0
  rw [Try.params6] at hA
  rw [Try.params6] at hval
  obtain ⟨v0, vs0, d0, ds0, p0, q0, hargs, rfl, rfl, h0, r0⟩ := trodAll_cons hA
  obtain ⟨v1, vs1, d1, ds1, p1, q1, rfl, rfl, rfl, h1, r1⟩ := trodAll_cons r0
  obtain ⟨v2, vs2, d2, ds2, p2, q2, rfl, rfl, rfl, h2, r2⟩ := trodAll_cons r1
  obtain ⟨rfl, rfl, rfl⟩ := trodAll_nil r2
  obtain rfl : args = #[v0, v1, v2] := by cases args; simp_all
  obtain ⟨rfl, rfl⟩ := trodVars_none hV
  have k0 := hval 0 22 v0 rfl rfl
  have k1 := hval 1 3 v1 rfl rfl
  have k2 := hval 2 3 v2 rfl rfl
  clear hA0 hval0
  refine (leOnly_run (enc := enc) W base k0 k1 k2 h0 h1 h2).mono fun e W' ⟨he, bel⟩ => ?_
  subst he
  exact ⟨_, rfl, _, _, _, [], _, [], hW', trodAll_mk1 (shut_bool Try.underlying4 _), (trodAll_cons_mk (below_arg acc_laidOut (by kernel_rfl) (of_decide_eq_true (by kernel_rfl)) h0 bel) (trodAll_cons_mk (below_arg acc_laidOut (by kernel_rfl) (of_decide_eq_true (by kernel_rfl)) h1 bel) (trodAll_cons_mk (below_arg acc_laidOut (by kernel_rfl) (of_decide_eq_true (by kernel_rfl)) h2 bel) trodAll_mk0))), rfl, bel.frame _, fun h => by cases h⟩

theorem leOnly_holds : Rows.LeOnlySaid :=
  OpenClaim.holds_of_wide 6 Try.f6 rfl rfl rfl rfl rfl rfl rfl ⟨rfl, rfl, rfl, rfl, rfl⟩ rfl rfl rfl rfl rfl (by kernel_rfl) Try.func6 (by kernel_rfl)
    (of_decide_eq_true (by kernel_rfl)) (by unfold Func.isWrapper; rw [if_neg (of_decide_eq_false (by kernel_rfl))]; exact ⟨rfl, rfl⟩)
    (fun os started H enc _ => leOnly_lifted os started H enc)
#print axioms leOnly_holds
end Go.Proofs.Ytbgakgljgdiimaa
