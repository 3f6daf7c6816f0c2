/-
  Package le: the property LeBack.
-/
import Derived.Test.YtbgakgljgdiimaaLeRow
import Derived.Test.YtbgakgljgdiimaaLeP
namespace Go.Proofs.Ytbgakgljgdiimaa
open Go.RowKit Go.Acc
theorem putB_ok {l : List UInt8} {y u : Nat} {b : Bool} (h : isW (y : Int) = true) (hb : b = true) : putB l y u b = l ++ leBytes y u := by subst hb; simp [putB, h]
theorem putE_ok {y : Nat} {b : Bool} (h : isW (y : Int) = true) (hb : b = true) : putE y b = 0 := by subst hb; simp [putE, h]
theorem back_load {l k : List UInt8} {y u n : Nat} (h : isW (y : Int) = true) (hu : u < 2 ^ (8 * y)) (hl : l.length = n) : loadU (l ++ leBytes y u ++ k) n y = u := by
  subst hl
  unfold loadU
  rw [if_pos ⟨h, by omega, by simp [leBytes_length]; omega⟩]
  show leVal (((l ++ leBytes y u ++ k).drop l.length).take y) = u
  rw [List.append_assoc, List.drop_left, List.take_left' (leBytes_length _ _), leVal_leBytes_lt hu]
theorem back_ok {n m y : Nat} (h : isW (y : Int) = true) (hm : n + y ≤ m) : loadE m n y = 0 := by
  unfold loadE
  rw [if_pos h, if_pos ⟨by omega, by omega⟩]
theorem back_loadi {l k : List UInt8} {y u n : Nat} (h : isW (y : Int) = true) (hu : u < 2 ^ (8 * y)) (hl : l.length = n) : loadI (l ++ leBytes y u ++ k) n y = sx y u := by
  unfold loadI
  rw [if_pos ⟨h, by omega, by subst hl; simp [leBytes_length]; omega⟩, back_load h hu hl]
  rfl
theorem wrap_u64 (x : Int) : IntKind.u64.wrap x = x % 18446744073709551616 := rfl
set_option maxHeartbeats 2000000 in
theorem leback_1 (A B : Option Addr) (n c m d : Nat) (x : Int) (u : Nat) (l k : List UInt8) (w : World) (ha : IsB w A n l) (hb : IsB w B m k) (hc : n ≤ c) (hd : m ≤ d) (hu : (u : Int) < 18446744073709551616) (hx : wd x = 1) :
    Calls Try.prog 5 #[.agg #[.slice A n c, .slice B m d], .int .i64 x, .int .u64 u] w fun e w' => e = .returned (.bool true) ∧ Below w.heap.size w w' := by
  have HU := Shut.mk hu
  have HX := Shut.mk hx
  have HA := Lib.hid ha
  have HBB := Lib.hid hb
  clear hu hx ha hb
  by_cases h1 : n ≤ 60
  · by_cases h2 : m ≤ 60
    · have hw : isW ((1 : Nat) : Int) = true := by decide
      have eU : (u : Int) / 72057594037927936 = ((u / 72057594037927936 : Nat) : Int) := by simp
      have hU : u / 72057594037927936 < 2 ^ (8 * 1) := by have := HU.out; simp only [Nat.reduceMul, Nat.reducePow]; omega
      have hb2 : 0 ≤ u / 72057594037927936 := Nat.zero_le _
      generalize u / 72057594037927936 = U at eU hU hb2
      try simp only [Int.ediv_one] at eU
      have EU := Shut.mk eU
      have HUU := Shut.mk hU
      have HW := Shut.mk hw
      clear eU hU hw
      have HA := Lib.hid (HA.out.take bc_len (k := n) (by omega))
      have HBB := Lib.hid (HBB.out.take bc_len (k := m) (by omega))
      go_enter Try.func5, Try.ntmps5
      go_wp2_with fail
      have HK := Lib.hid (Blk.new w 41 #[.slice A n c, .slice B m d])
      have H0 := Lib.hid ((Below.refl w.heap.size w).alloc (Nat.le_refl _) (.cells #[.slice A n c, .slice B m d] 41))
      go_at_call 16
      refine (works_spec _).mono ?_
      rintro e w1 ⟨rfl, hb⟩
      have v0 := ((HK.out.pure hb).cell 0).trans (show _ = some (Value.slice A n c) from rfl)
      have v1 := ((HK.out.pure hb).cell 1).trans (show _ = some (Value.slice B m d) from rfl)
      have HB := Lib.hid (pure_trans H0.out hb)
      clear hb
      go_wp2_with fail
      go_at_call 24
      refine (widen_spec x _).mono ?_
      rw [HX.out]
      rintro e w' ⟨rfl, rfl⟩
      go_wp2_with fail
      rw [EU.out]
      have HA := Lib.hid (HA.out.pure HB.out)
      have HBB := Lib.hid (HBB.out.pure HB.out)
      clear v0 v1
      go_at_call 17
      refine (put_spec A (n) c U (1 : Nat) (l.take (n)) _ HA.out (by omega) (by omega) (u_small HW.out HUU.out)).mono ?_
      rintro e w2 ⟨AX, nX, cX, rfl, hOX, hb⟩
      rw [Int.toNat_natCast, putB_ok HW.out (fitsU_of HUU.out)] at hOX
      rw [Int.toNat_natCast, putE_ok HW.out (fitsU_of HUU.out)]
      have hla := HA.out.1
      obtain rfl : n + 1 = nX := by rw [← hOX.1, List.length_append, hla, leBytes_length]
      have HLA := Shut.mk hla
      have HX2 := Lib.hid hOX.is
      have HB := Lib.hid (pure_below HB.out hb)
      have HA := Lib.hid (HA.out.pure hb)
      have HBB := Lib.hid (HBB.out.pure hb)
      clear hb hOX hla
      go_wp2_with fail
      go_at_call 10
      refine (copyb_spec AX _ cX _ _ HX2.out (by omega)).mono ?_
      rintro e w3 ⟨AC, nC, cC, rfl, hOC, hb⟩
      obtain rfl : n + 1 = nC := by rw [← hOC.1, HX2.out.1]
      have HOC := Lib.hid hOC
      have HB3 := Lib.hid hb
      have HBB3 := Lib.hid (HBB.out.pure hb)
      clear hb hOC
      go_wp2_with (at_builtin; refine wpl_app _ rfl (.tmp 50) (.tmp 51) _ rfl 5 _ 1 1 Try.underlying22 info_b rfl (by omega) bc_len bc_one _ _ _ _ _ rfl HOC.out _ _ _ _ rfl HBB3.out (by omega) HB3.out.size ?_; intro A1 c1 w4 hown1 hfr1 hat1; have HO1 := Lib.hid hown1; have HF1 := Lib.hid hfr1; clear hown1 hfr1 hat1)
      have hb : Below _ _ w4 := below_fr HB3.out HF1.out (by rintro j ⟨ad, h, rfl⟩; exact (HOC.out.addr ad h).2.1)
      have HB := Lib.hid (pure_below HB.out hb)
      have HA := Lib.hid (HA.out.pure hb)
      have HBB := Lib.hid (HBB.out.pure hb)
      have HX2 := Lib.hid (HX2.out.pure hb)
      have hcap := HO1.out.cap.1
      clear hb HOC HB3 HBB3 HF1
      go_at_call 11
      refine (load_spec A1 _ c1 (n : Nat) (1 : Nat) _ _ HO1.out.is hcap (by omega)).mono ?_
      rw [back_load HW.out HUU.out HLA.out, back_ok HW.out (by omega)]
      rintro e w5 ⟨rfl, hb⟩
      have HB := Lib.hid (pure_below HB.out hb)
      have HA := Lib.hid (HA.out.pure hb)
      have HBB := Lib.hid (HBB.out.pure hb)
      have HX2 := Lib.hid (HX2.out.pure hb)
      clear hb HO1 hcap
      go_wp2_with fail
      have eN : wrap64 (IntKind.u64.wrap ((U : Int) * 72057594037927936)) / 72057594037927936 = sx 1 U := by
        have := HUU.out
        try unfold wrap64
        try simp only [wrap_u64]
        unfold sx
        simp only [Nat.reduceMul, Nat.reduceSub, Nat.reducePow] at *
        split <;> omega
      rw [eN]
      clear eN
      go_at_call 19
      refine (puti_spec A (n) c (1 : Nat) (sx 1 U) (l.take (n)) _ HA.out (by omega) (by omega) (sx_bd HW.out HUU.out)).mono ?_
      rintro e w6 ⟨AY, nY, cY, rfl, hOY, hb⟩
      rw [Int.toNat_natCast, putB_ok HW.out (sx_fits HW.out HUU.out), sx_bytes HW.out HUU.out] at hOY
      rw [Int.toNat_natCast, putE_ok HW.out (sx_fits HW.out HUU.out)]
      obtain rfl : n + 1 = nY := by rw [← hOY.1, List.length_append, HLA.out, leBytes_length]
      have HY2 := Lib.hid hOY.is
      have HB := Lib.hid (pure_below HB.out hb)
      have HBB := Lib.hid (HBB.out.pure hb)
      have HX2 := Lib.hid (HX2.out.pure hb)
      clear hb hOY HA
      go_wp2_with fail
      go_at_call 10
      refine (copyb_spec AY _ cY _ _ HY2.out (by omega)).mono ?_
      rintro e w7 ⟨AC, nC, cC2, rfl, hOC, hb⟩
      obtain rfl : n + 1 = nC := by rw [← hOC.1, HY2.out.1]
      have HOC := Lib.hid hOC
      have HB3 := Lib.hid hb
      have HBB3 := Lib.hid (HBB.out.pure hb)
      clear hb hOC
      go_wp2_with (at_builtin; refine wpl_app _ rfl (.tmp 78) (.tmp 79) _ rfl 5 _ 1 1 Try.underlying22 info_b rfl (by omega) bc_len bc_one _ _ _ _ _ rfl HOC.out _ _ _ _ rfl HBB3.out (by omega) HB3.out.size ?_; intro A2 c2 w8 hown1 hfr1 hat1; have HO1 := Lib.hid hown1; have HF1 := Lib.hid hfr1; clear hown1 hfr1 hat1)
      have hb : Below _ _ w8 := below_fr HB3.out HF1.out (by rintro j ⟨ad, h, rfl⟩; exact (HOC.out.addr ad h).2.1)
      have HB := Lib.hid (pure_below HB.out hb)
      have HY2 := Lib.hid (HY2.out.pure hb)
      have HX2 := Lib.hid (HX2.out.pure hb)
      have hcap := HO1.out.cap.1
      clear hb HOC HB3 HBB3 HF1 HBB
      go_at_call 13
      refine (loadi_spec A2 _ c2 (n : Nat) (1 : Nat) _ _ HO1.out.is hcap (by omega)).mono ?_
      rw [back_loadi HW.out HUU.out HLA.out, back_ok HW.out (by omega)]
      rintro e w9 ⟨rfl, hb⟩
      have HB := Lib.hid (pure_below HB.out hb)
      have HY2 := Lib.hid (HY2.out.pure hb)
      have HX2 := Lib.hid (HX2.out.pure hb)
      have ew : IntKind.i64.wrap (((n : Nat) : Int) + ((1 : Nat) : Int)) = (((n : Nat) : Int) + ((1 : Nat) : Int)) := IntWalk.i64_in _ (by omega)
      clear hb HO1 hcap
      go_wp2_with fail
      go_at_call 15
      refine (eqb_spec AX AY _ _ cX cY _ _ _ HX2.out HY2.out).mono ?_
      rw [eqB_self]
      rintro e w' ⟨rfl, rfl⟩
      go_wp2
      go_ret
      exact ⟨rfl, HB.out⟩
    · have h2' : 60 < m := by omega
      clear h2
      have hw : isW ((1 : Nat) : Int) = true := by decide
      have eU : (u : Int) / 72057594037927936 = ((u / 72057594037927936 : Nat) : Int) := by simp
      have hU : u / 72057594037927936 < 2 ^ (8 * 1) := by have := HU.out; simp only [Nat.reduceMul, Nat.reducePow]; omega
      have hb2 : 0 ≤ u / 72057594037927936 := Nat.zero_le _
      generalize u / 72057594037927936 = U at eU hU hb2
      try simp only [Int.ediv_one] at eU
      have EU := Shut.mk eU
      have HUU := Shut.mk hU
      have HW := Shut.mk hw
      clear eU hU hw
      have HA := Lib.hid (HA.out.take bc_len (k := n) (by omega))
      have HBB := Lib.hid (HBB.out.take bc_len (k := 60) (by omega))
      go_enter Try.func5, Try.ntmps5
      go_wp2_with fail
      have HK := Lib.hid (Blk.new w 41 #[.slice A n c, .slice B m d])
      have H0 := Lib.hid ((Below.refl w.heap.size w).alloc (Nat.le_refl _) (.cells #[.slice A n c, .slice B m d] 41))
      go_at_call 16
      refine (works_spec _).mono ?_
      rintro e w1 ⟨rfl, hb⟩
      have v0 := ((HK.out.pure hb).cell 0).trans (show _ = some (Value.slice A n c) from rfl)
      have v1 := ((HK.out.pure hb).cell 1).trans (show _ = some (Value.slice B m d) from rfl)
      have HB := Lib.hid (pure_trans H0.out hb)
      clear hb
      go_wp2_with fail
      go_at_call 24
      refine (widen_spec x _).mono ?_
      rw [HX.out]
      rintro e w' ⟨rfl, rfl⟩
      go_wp2_with fail
      rw [EU.out]
      have HA := Lib.hid (HA.out.pure HB.out)
      have HBB := Lib.hid (HBB.out.pure HB.out)
      clear v0 v1
      go_at_call 17
      refine (put_spec A (n) c U (1 : Nat) (l.take (n)) _ HA.out (by omega) (by omega) (u_small HW.out HUU.out)).mono ?_
      rintro e w2 ⟨AX, nX, cX, rfl, hOX, hb⟩
      rw [Int.toNat_natCast, putB_ok HW.out (fitsU_of HUU.out)] at hOX
      rw [Int.toNat_natCast, putE_ok HW.out (fitsU_of HUU.out)]
      have hla := HA.out.1
      obtain rfl : n + 1 = nX := by rw [← hOX.1, List.length_append, hla, leBytes_length]
      have HLA := Shut.mk hla
      have HX2 := Lib.hid hOX.is
      have HB := Lib.hid (pure_below HB.out hb)
      have HA := Lib.hid (HA.out.pure hb)
      have HBB := Lib.hid (HBB.out.pure hb)
      clear hb hOX hla
      go_wp2_with fail
      go_at_call 10
      refine (copyb_spec AX _ cX _ _ HX2.out (by omega)).mono ?_
      rintro e w3 ⟨AC, nC, cC, rfl, hOC, hb⟩
      obtain rfl : n + 1 = nC := by rw [← hOC.1, HX2.out.1]
      have HOC := Lib.hid hOC
      have HB3 := Lib.hid hb
      have HBB3 := Lib.hid (HBB.out.pure hb)
      clear hb hOC
      go_wp2_with (at_builtin; refine wpl_app _ rfl (.tmp 50) (.tmp 51) _ rfl 5 _ 1 1 Try.underlying22 info_b rfl (by omega) bc_len bc_one _ _ _ _ _ rfl HOC.out _ _ _ _ rfl HBB3.out (by omega) HB3.out.size ?_; intro A1 c1 w4 hown1 hfr1 hat1; have HO1 := Lib.hid hown1; have HF1 := Lib.hid hfr1; clear hown1 hfr1 hat1)
      have hb : Below _ _ w4 := below_fr HB3.out HF1.out (by rintro j ⟨ad, h, rfl⟩; exact (HOC.out.addr ad h).2.1)
      have HB := Lib.hid (pure_below HB.out hb)
      have HA := Lib.hid (HA.out.pure hb)
      have HBB := Lib.hid (HBB.out.pure hb)
      have HX2 := Lib.hid (HX2.out.pure hb)
      have hcap := HO1.out.cap.1
      clear hb HOC HB3 HBB3 HF1
      go_at_call 11
      refine (load_spec A1 _ c1 (n : Nat) (1 : Nat) _ _ HO1.out.is hcap (by omega)).mono ?_
      rw [back_load HW.out HUU.out HLA.out, back_ok HW.out (by omega)]
      rintro e w5 ⟨rfl, hb⟩
      have HB := Lib.hid (pure_below HB.out hb)
      have HA := Lib.hid (HA.out.pure hb)
      have HBB := Lib.hid (HBB.out.pure hb)
      have HX2 := Lib.hid (HX2.out.pure hb)
      clear hb HO1 hcap
      go_wp2_with fail
      have eN : wrap64 (IntKind.u64.wrap ((U : Int) * 72057594037927936)) / 72057594037927936 = sx 1 U := by
        have := HUU.out
        try unfold wrap64
        try simp only [wrap_u64]
        unfold sx
        simp only [Nat.reduceMul, Nat.reduceSub, Nat.reducePow] at *
        split <;> omega
      rw [eN]
      clear eN
      go_at_call 19
      refine (puti_spec A (n) c (1 : Nat) (sx 1 U) (l.take (n)) _ HA.out (by omega) (by omega) (sx_bd HW.out HUU.out)).mono ?_
      rintro e w6 ⟨AY, nY, cY, rfl, hOY, hb⟩
      rw [Int.toNat_natCast, putB_ok HW.out (sx_fits HW.out HUU.out), sx_bytes HW.out HUU.out] at hOY
      rw [Int.toNat_natCast, putE_ok HW.out (sx_fits HW.out HUU.out)]
      obtain rfl : n + 1 = nY := by rw [← hOY.1, List.length_append, HLA.out, leBytes_length]
      have HY2 := Lib.hid hOY.is
      have HB := Lib.hid (pure_below HB.out hb)
      have HBB := Lib.hid (HBB.out.pure hb)
      have HX2 := Lib.hid (HX2.out.pure hb)
      clear hb hOY HA
      go_wp2_with fail
      go_at_call 10
      refine (copyb_spec AY _ cY _ _ HY2.out (by omega)).mono ?_
      rintro e w7 ⟨AC, nC, cC2, rfl, hOC, hb⟩
      obtain rfl : n + 1 = nC := by rw [← hOC.1, HY2.out.1]
      have HOC := Lib.hid hOC
      have HB3 := Lib.hid hb
      have HBB3 := Lib.hid (HBB.out.pure hb)
      clear hb hOC
      go_wp2_with (at_builtin; refine wpl_app _ rfl (.tmp 78) (.tmp 79) _ rfl 5 _ 1 1 Try.underlying22 info_b rfl (by omega) bc_len bc_one _ _ _ _ _ rfl HOC.out _ _ _ _ rfl HBB3.out (by omega) HB3.out.size ?_; intro A2 c2 w8 hown1 hfr1 hat1; have HO1 := Lib.hid hown1; have HF1 := Lib.hid hfr1; clear hown1 hfr1 hat1)
      have hb : Below _ _ w8 := below_fr HB3.out HF1.out (by rintro j ⟨ad, h, rfl⟩; exact (HOC.out.addr ad h).2.1)
      have HB := Lib.hid (pure_below HB.out hb)
      have HY2 := Lib.hid (HY2.out.pure hb)
      have HX2 := Lib.hid (HX2.out.pure hb)
      have hcap := HO1.out.cap.1
      clear hb HOC HB3 HBB3 HF1 HBB
      go_at_call 13
      refine (loadi_spec A2 _ c2 (n : Nat) (1 : Nat) _ _ HO1.out.is hcap (by omega)).mono ?_
      rw [back_loadi HW.out HUU.out HLA.out, back_ok HW.out (by omega)]
      rintro e w9 ⟨rfl, hb⟩
      have HB := Lib.hid (pure_below HB.out hb)
      have HY2 := Lib.hid (HY2.out.pure hb)
      have HX2 := Lib.hid (HX2.out.pure hb)
      have ew : IntKind.i64.wrap (((n : Nat) : Int) + ((1 : Nat) : Int)) = (((n : Nat) : Int) + ((1 : Nat) : Int)) := IntWalk.i64_in _ (by omega)
      clear hb HO1 hcap
      go_wp2_with fail
      go_at_call 15
      refine (eqb_spec AX AY _ _ cX cY _ _ _ HX2.out HY2.out).mono ?_
      rw [eqB_self]
      rintro e w' ⟨rfl, rfl⟩
      go_wp2
      go_ret
      exact ⟨rfl, HB.out⟩
  · have h1' : 60 < n := by omega
    clear h1
    by_cases h2 : m ≤ 60
    · have hw : isW ((1 : Nat) : Int) = true := by decide
      have eU : (u : Int) / 72057594037927936 = ((u / 72057594037927936 : Nat) : Int) := by simp
      have hU : u / 72057594037927936 < 2 ^ (8 * 1) := by have := HU.out; simp only [Nat.reduceMul, Nat.reducePow]; omega
      have hb2 : 0 ≤ u / 72057594037927936 := Nat.zero_le _
      generalize u / 72057594037927936 = U at eU hU hb2
      try simp only [Int.ediv_one] at eU
      have EU := Shut.mk eU
      have HUU := Shut.mk hU
      have HW := Shut.mk hw
      clear eU hU hw
      have HA := Lib.hid (HA.out.take bc_len (k := 60) (by omega))
      have HBB := Lib.hid (HBB.out.take bc_len (k := m) (by omega))
      go_enter Try.func5, Try.ntmps5
      go_wp2_with fail
      have HK := Lib.hid (Blk.new w 41 #[.slice A n c, .slice B m d])
      have H0 := Lib.hid ((Below.refl w.heap.size w).alloc (Nat.le_refl _) (.cells #[.slice A n c, .slice B m d] 41))
      go_at_call 16
      refine (works_spec _).mono ?_
      rintro e w1 ⟨rfl, hb⟩
      have v0 := ((HK.out.pure hb).cell 0).trans (show _ = some (Value.slice A n c) from rfl)
      have v1 := ((HK.out.pure hb).cell 1).trans (show _ = some (Value.slice B m d) from rfl)
      have HB := Lib.hid (pure_trans H0.out hb)
      clear hb
      go_wp2_with fail
      go_at_call 24
      refine (widen_spec x _).mono ?_
      rw [HX.out]
      rintro e w' ⟨rfl, rfl⟩
      go_wp2_with fail
      rw [EU.out]
      have HA := Lib.hid (HA.out.pure HB.out)
      have HBB := Lib.hid (HBB.out.pure HB.out)
      clear v0 v1
      go_at_call 17
      refine (put_spec A (60) c U (1 : Nat) (l.take (60)) _ HA.out (by omega) (by omega) (u_small HW.out HUU.out)).mono ?_
      rintro e w2 ⟨AX, nX, cX, rfl, hOX, hb⟩
      rw [Int.toNat_natCast, putB_ok HW.out (fitsU_of HUU.out)] at hOX
      rw [Int.toNat_natCast, putE_ok HW.out (fitsU_of HUU.out)]
      have hla := HA.out.1
      obtain rfl : 60 + 1 = nX := by rw [← hOX.1, List.length_append, hla, leBytes_length]
      have HLA := Shut.mk hla
      have HX2 := Lib.hid hOX.is
      have HB := Lib.hid (pure_below HB.out hb)
      have HA := Lib.hid (HA.out.pure hb)
      have HBB := Lib.hid (HBB.out.pure hb)
      clear hb hOX hla
      go_wp2_with fail
      go_at_call 10
      refine (copyb_spec AX _ cX _ _ HX2.out (by omega)).mono ?_
      rintro e w3 ⟨AC, nC, cC, rfl, hOC, hb⟩
      obtain rfl : 60 + 1 = nC := by rw [← hOC.1, HX2.out.1]
      have HOC := Lib.hid hOC
      have HB3 := Lib.hid hb
      have HBB3 := Lib.hid (HBB.out.pure hb)
      clear hb hOC
      go_wp2_with (at_builtin; refine wpl_app _ rfl (.tmp 50) (.tmp 51) _ rfl 5 _ 1 1 Try.underlying22 info_b rfl (by omega) bc_len bc_one _ _ _ _ _ rfl HOC.out _ _ _ _ rfl HBB3.out (by omega) HB3.out.size ?_; intro A1 c1 w4 hown1 hfr1 hat1; have HO1 := Lib.hid hown1; have HF1 := Lib.hid hfr1; clear hown1 hfr1 hat1)
      have hb : Below _ _ w4 := below_fr HB3.out HF1.out (by rintro j ⟨ad, h, rfl⟩; exact (HOC.out.addr ad h).2.1)
      have HB := Lib.hid (pure_below HB.out hb)
      have HA := Lib.hid (HA.out.pure hb)
      have HBB := Lib.hid (HBB.out.pure hb)
      have HX2 := Lib.hid (HX2.out.pure hb)
      have hcap := HO1.out.cap.1
      clear hb HOC HB3 HBB3 HF1
      go_at_call 11
      refine (load_spec A1 _ c1 (60 : Nat) (1 : Nat) _ _ HO1.out.is hcap (by omega)).mono ?_
      rw [back_load HW.out HUU.out HLA.out, back_ok HW.out (by omega)]
      rintro e w5 ⟨rfl, hb⟩
      have HB := Lib.hid (pure_below HB.out hb)
      have HA := Lib.hid (HA.out.pure hb)
      have HBB := Lib.hid (HBB.out.pure hb)
      have HX2 := Lib.hid (HX2.out.pure hb)
      clear hb HO1 hcap
      go_wp2_with fail
      have eN : wrap64 (IntKind.u64.wrap ((U : Int) * 72057594037927936)) / 72057594037927936 = sx 1 U := by
        have := HUU.out
        try unfold wrap64
        try simp only [wrap_u64]
        unfold sx
        simp only [Nat.reduceMul, Nat.reduceSub, Nat.reducePow] at *
        split <;> omega
      rw [eN]
      clear eN
      go_at_call 19
      refine (puti_spec A (60) c (1 : Nat) (sx 1 U) (l.take (60)) _ HA.out (by omega) (by omega) (sx_bd HW.out HUU.out)).mono ?_
      rintro e w6 ⟨AY, nY, cY, rfl, hOY, hb⟩
      rw [Int.toNat_natCast, putB_ok HW.out (sx_fits HW.out HUU.out), sx_bytes HW.out HUU.out] at hOY
      rw [Int.toNat_natCast, putE_ok HW.out (sx_fits HW.out HUU.out)]
      obtain rfl : 60 + 1 = nY := by rw [← hOY.1, List.length_append, HLA.out, leBytes_length]
      have HY2 := Lib.hid hOY.is
      have HB := Lib.hid (pure_below HB.out hb)
      have HBB := Lib.hid (HBB.out.pure hb)
      have HX2 := Lib.hid (HX2.out.pure hb)
      clear hb hOY HA
      go_wp2_with fail
      go_at_call 10
      refine (copyb_spec AY _ cY _ _ HY2.out (by omega)).mono ?_
      rintro e w7 ⟨AC, nC, cC2, rfl, hOC, hb⟩
      obtain rfl : 60 + 1 = nC := by rw [← hOC.1, HY2.out.1]
      have HOC := Lib.hid hOC
      have HB3 := Lib.hid hb
      have HBB3 := Lib.hid (HBB.out.pure hb)
      clear hb hOC
      go_wp2_with (at_builtin; refine wpl_app _ rfl (.tmp 78) (.tmp 79) _ rfl 5 _ 1 1 Try.underlying22 info_b rfl (by omega) bc_len bc_one _ _ _ _ _ rfl HOC.out _ _ _ _ rfl HBB3.out (by omega) HB3.out.size ?_; intro A2 c2 w8 hown1 hfr1 hat1; have HO1 := Lib.hid hown1; have HF1 := Lib.hid hfr1; clear hown1 hfr1 hat1)
      have hb : Below _ _ w8 := below_fr HB3.out HF1.out (by rintro j ⟨ad, h, rfl⟩; exact (HOC.out.addr ad h).2.1)
      have HB := Lib.hid (pure_below HB.out hb)
      have HY2 := Lib.hid (HY2.out.pure hb)
      have HX2 := Lib.hid (HX2.out.pure hb)
      have hcap := HO1.out.cap.1
      clear hb HOC HB3 HBB3 HF1 HBB
      go_at_call 13
      refine (loadi_spec A2 _ c2 (60 : Nat) (1 : Nat) _ _ HO1.out.is hcap (by omega)).mono ?_
      rw [back_loadi HW.out HUU.out HLA.out, back_ok HW.out (by omega)]
      rintro e w9 ⟨rfl, hb⟩
      have HB := Lib.hid (pure_below HB.out hb)
      have HY2 := Lib.hid (HY2.out.pure hb)
      have HX2 := Lib.hid (HX2.out.pure hb)
      have ew : IntKind.i64.wrap (((60 : Nat) : Int) + ((1 : Nat) : Int)) = (((60 : Nat) : Int) + ((1 : Nat) : Int)) := IntWalk.i64_in _ (by omega)
      clear hb HO1 hcap
      go_wp2_with fail
      go_at_call 15
      refine (eqb_spec AX AY _ _ cX cY _ _ _ HX2.out HY2.out).mono ?_
      rw [eqB_self]
      rintro e w' ⟨rfl, rfl⟩
      go_wp2
      go_ret
      exact ⟨rfl, HB.out⟩
    · have h2' : 60 < m := by omega
      clear h2
      have hw : isW ((1 : Nat) : Int) = true := by decide
      have eU : (u : Int) / 72057594037927936 = ((u / 72057594037927936 : Nat) : Int) := by simp
      have hU : u / 72057594037927936 < 2 ^ (8 * 1) := by have := HU.out; simp only [Nat.reduceMul, Nat.reducePow]; omega
      have hb2 : 0 ≤ u / 72057594037927936 := Nat.zero_le _
      generalize u / 72057594037927936 = U at eU hU hb2
      try simp only [Int.ediv_one] at eU
      have EU := Shut.mk eU
      have HUU := Shut.mk hU
      have HW := Shut.mk hw
      clear eU hU hw
      have HA := Lib.hid (HA.out.take bc_len (k := 60) (by omega))
      have HBB := Lib.hid (HBB.out.take bc_len (k := 60) (by omega))
      go_enter Try.func5, Try.ntmps5
      go_wp2_with fail
      have HK := Lib.hid (Blk.new w 41 #[.slice A n c, .slice B m d])
      have H0 := Lib.hid ((Below.refl w.heap.size w).alloc (Nat.le_refl _) (.cells #[.slice A n c, .slice B m d] 41))
      go_at_call 16
      refine (works_spec _).mono ?_
      rintro e w1 ⟨rfl, hb⟩
      have v0 := ((HK.out.pure hb).cell 0).trans (show _ = some (Value.slice A n c) from rfl)
      have v1 := ((HK.out.pure hb).cell 1).trans (show _ = some (Value.slice B m d) from rfl)
      have HB := Lib.hid (pure_trans H0.out hb)
      clear hb
      go_wp2_with fail
      go_at_call 24
      refine (widen_spec x _).mono ?_
      rw [HX.out]
      rintro e w' ⟨rfl, rfl⟩
      go_wp2_with fail
      rw [EU.out]
      have HA := Lib.hid (HA.out.pure HB.out)
      have HBB := Lib.hid (HBB.out.pure HB.out)
      clear v0 v1
      go_at_call 17
      refine (put_spec A (60) c U (1 : Nat) (l.take (60)) _ HA.out (by omega) (by omega) (u_small HW.out HUU.out)).mono ?_
      rintro e w2 ⟨AX, nX, cX, rfl, hOX, hb⟩
      rw [Int.toNat_natCast, putB_ok HW.out (fitsU_of HUU.out)] at hOX
      rw [Int.toNat_natCast, putE_ok HW.out (fitsU_of HUU.out)]
      have hla := HA.out.1
      obtain rfl : 60 + 1 = nX := by rw [← hOX.1, List.length_append, hla, leBytes_length]
      have HLA := Shut.mk hla
      have HX2 := Lib.hid hOX.is
      have HB := Lib.hid (pure_below HB.out hb)
      have HA := Lib.hid (HA.out.pure hb)
      have HBB := Lib.hid (HBB.out.pure hb)
      clear hb hOX hla
      go_wp2_with fail
      go_at_call 10
      refine (copyb_spec AX _ cX _ _ HX2.out (by omega)).mono ?_
      rintro e w3 ⟨AC, nC, cC, rfl, hOC, hb⟩
      obtain rfl : 60 + 1 = nC := by rw [← hOC.1, HX2.out.1]
      have HOC := Lib.hid hOC
      have HB3 := Lib.hid hb
      have HBB3 := Lib.hid (HBB.out.pure hb)
      clear hb hOC
      go_wp2_with (at_builtin; refine wpl_app _ rfl (.tmp 50) (.tmp 51) _ rfl 5 _ 1 1 Try.underlying22 info_b rfl (by omega) bc_len bc_one _ _ _ _ _ rfl HOC.out _ _ _ _ rfl HBB3.out (by omega) HB3.out.size ?_; intro A1 c1 w4 hown1 hfr1 hat1; have HO1 := Lib.hid hown1; have HF1 := Lib.hid hfr1; clear hown1 hfr1 hat1)
      have hb : Below _ _ w4 := below_fr HB3.out HF1.out (by rintro j ⟨ad, h, rfl⟩; exact (HOC.out.addr ad h).2.1)
      have HB := Lib.hid (pure_below HB.out hb)
      have HA := Lib.hid (HA.out.pure hb)
      have HBB := Lib.hid (HBB.out.pure hb)
      have HX2 := Lib.hid (HX2.out.pure hb)
      have hcap := HO1.out.cap.1
      clear hb HOC HB3 HBB3 HF1
      go_at_call 11
      refine (load_spec A1 _ c1 (60 : Nat) (1 : Nat) _ _ HO1.out.is hcap (by omega)).mono ?_
      rw [back_load HW.out HUU.out HLA.out, back_ok HW.out (by omega)]
      rintro e w5 ⟨rfl, hb⟩
      have HB := Lib.hid (pure_below HB.out hb)
      have HA := Lib.hid (HA.out.pure hb)
      have HBB := Lib.hid (HBB.out.pure hb)
      have HX2 := Lib.hid (HX2.out.pure hb)
      clear hb HO1 hcap
      go_wp2_with fail
      have eN : wrap64 (IntKind.u64.wrap ((U : Int) * 72057594037927936)) / 72057594037927936 = sx 1 U := by
        have := HUU.out
        try unfold wrap64
        try simp only [wrap_u64]
        unfold sx
        simp only [Nat.reduceMul, Nat.reduceSub, Nat.reducePow] at *
        split <;> omega
      rw [eN]
      clear eN
      go_at_call 19
      refine (puti_spec A (60) c (1 : Nat) (sx 1 U) (l.take (60)) _ HA.out (by omega) (by omega) (sx_bd HW.out HUU.out)).mono ?_
      rintro e w6 ⟨AY, nY, cY, rfl, hOY, hb⟩
      rw [Int.toNat_natCast, putB_ok HW.out (sx_fits HW.out HUU.out), sx_bytes HW.out HUU.out] at hOY
      rw [Int.toNat_natCast, putE_ok HW.out (sx_fits HW.out HUU.out)]
      obtain rfl : 60 + 1 = nY := by rw [← hOY.1, List.length_append, HLA.out, leBytes_length]
      have HY2 := Lib.hid hOY.is
      have HB := Lib.hid (pure_below HB.out hb)
      have HBB := Lib.hid (HBB.out.pure hb)
      have HX2 := Lib.hid (HX2.out.pure hb)
      clear hb hOY HA
      go_wp2_with fail
      go_at_call 10
      refine (copyb_spec AY _ cY _ _ HY2.out (by omega)).mono ?_
      rintro e w7 ⟨AC, nC, cC2, rfl, hOC, hb⟩
      obtain rfl : 60 + 1 = nC := by rw [← hOC.1, HY2.out.1]
      have HOC := Lib.hid hOC
      have HB3 := Lib.hid hb
      have HBB3 := Lib.hid (HBB.out.pure hb)
      clear hb hOC
      go_wp2_with (at_builtin; refine wpl_app _ rfl (.tmp 78) (.tmp 79) _ rfl 5 _ 1 1 Try.underlying22 info_b rfl (by omega) bc_len bc_one _ _ _ _ _ rfl HOC.out _ _ _ _ rfl HBB3.out (by omega) HB3.out.size ?_; intro A2 c2 w8 hown1 hfr1 hat1; have HO1 := Lib.hid hown1; have HF1 := Lib.hid hfr1; clear hown1 hfr1 hat1)
      have hb : Below _ _ w8 := below_fr HB3.out HF1.out (by rintro j ⟨ad, h, rfl⟩; exact (HOC.out.addr ad h).2.1)
      have HB := Lib.hid (pure_below HB.out hb)
      have HY2 := Lib.hid (HY2.out.pure hb)
      have HX2 := Lib.hid (HX2.out.pure hb)
      have hcap := HO1.out.cap.1
      clear hb HOC HB3 HBB3 HF1 HBB
      go_at_call 13
      refine (loadi_spec A2 _ c2 (60 : Nat) (1 : Nat) _ _ HO1.out.is hcap (by omega)).mono ?_
      rw [back_loadi HW.out HUU.out HLA.out, back_ok HW.out (by omega)]
      rintro e w9 ⟨rfl, hb⟩
      have HB := Lib.hid (pure_below HB.out hb)
      have HY2 := Lib.hid (HY2.out.pure hb)
      have HX2 := Lib.hid (HX2.out.pure hb)
      have ew : IntKind.i64.wrap (((60 : Nat) : Int) + ((1 : Nat) : Int)) = (((60 : Nat) : Int) + ((1 : Nat) : Int)) := IntWalk.i64_in _ (by omega)
      clear hb HO1 hcap
      go_wp2_with fail
      go_at_call 15
      refine (eqb_spec AX AY _ _ cX cY _ _ _ HX2.out HY2.out).mono ?_
      rw [eqB_self]
      rintro e w' ⟨rfl, rfl⟩
      go_wp2
      go_ret
      exact ⟨rfl, HB.out⟩
set_option maxHeartbeats 2000000 in
theorem leback_2 (A B : Option Addr) (n c m d : Nat) (x : Int) (u : Nat) (l k : List UInt8) (w : World) (ha : IsB w A n l) (hb : IsB w B m k) (hc : n ≤ c) (hd : m ≤ d) (hu : (u : Int) < 18446744073709551616) (hx : wd x = 2) :
    Calls Try.prog 5 #[.agg #[.slice A n c, .slice B m d], .int .i64 x, .int .u64 u] w fun e w' => e = .returned (.bool true) ∧ Below w.heap.size w w' := by
  have HU := Shut.mk hu
  have HX := Shut.mk hx
  have HA := Lib.hid ha
  have HBB := Lib.hid hb
  clear hu hx ha hb
  by_cases h1 : n ≤ 60
  · by_cases h2 : m ≤ 60
    · have hw : isW ((2 : Nat) : Int) = true := by decide
      have eU : (u : Int) / 281474976710656 = ((u / 281474976710656 : Nat) : Int) := by simp
      have hU : u / 281474976710656 < 2 ^ (8 * 2) := by have := HU.out; simp only [Nat.reduceMul, Nat.reducePow]; omega
      have hb2 : 0 ≤ u / 281474976710656 := Nat.zero_le _
      generalize u / 281474976710656 = U at eU hU hb2
      try simp only [Int.ediv_one] at eU
      have EU := Shut.mk eU
      have HUU := Shut.mk hU
      have HW := Shut.mk hw
      clear eU hU hw
      have HA := Lib.hid (HA.out.take bc_len (k := n) (by omega))
      have HBB := Lib.hid (HBB.out.take bc_len (k := m) (by omega))
      go_enter Try.func5, Try.ntmps5
      go_wp2_with fail
      have HK := Lib.hid (Blk.new w 41 #[.slice A n c, .slice B m d])
      have H0 := Lib.hid ((Below.refl w.heap.size w).alloc (Nat.le_refl _) (.cells #[.slice A n c, .slice B m d] 41))
      go_at_call 16
      refine (works_spec _).mono ?_
      rintro e w1 ⟨rfl, hb⟩
      have v0 := ((HK.out.pure hb).cell 0).trans (show _ = some (Value.slice A n c) from rfl)
      have v1 := ((HK.out.pure hb).cell 1).trans (show _ = some (Value.slice B m d) from rfl)
      have HB := Lib.hid (pure_trans H0.out hb)
      clear hb
      go_wp2_with fail
      go_at_call 24
      refine (widen_spec x _).mono ?_
      rw [HX.out]
      rintro e w' ⟨rfl, rfl⟩
      go_wp2_with fail
      rw [EU.out]
      have HA := Lib.hid (HA.out.pure HB.out)
      have HBB := Lib.hid (HBB.out.pure HB.out)
      clear v0 v1
      go_at_call 17
      refine (put_spec A (n) c U (2 : Nat) (l.take (n)) _ HA.out (by omega) (by omega) (u_small HW.out HUU.out)).mono ?_
      rintro e w2 ⟨AX, nX, cX, rfl, hOX, hb⟩
      rw [Int.toNat_natCast, putB_ok HW.out (fitsU_of HUU.out)] at hOX
      rw [Int.toNat_natCast, putE_ok HW.out (fitsU_of HUU.out)]
      have hla := HA.out.1
      obtain rfl : n + 2 = nX := by rw [← hOX.1, List.length_append, hla, leBytes_length]
      have HLA := Shut.mk hla
      have HX2 := Lib.hid hOX.is
      have HB := Lib.hid (pure_below HB.out hb)
      have HA := Lib.hid (HA.out.pure hb)
      have HBB := Lib.hid (HBB.out.pure hb)
      clear hb hOX hla
      go_wp2_with fail
      go_at_call 10
      refine (copyb_spec AX _ cX _ _ HX2.out (by omega)).mono ?_
      rintro e w3 ⟨AC, nC, cC, rfl, hOC, hb⟩
      obtain rfl : n + 2 = nC := by rw [← hOC.1, HX2.out.1]
      have HOC := Lib.hid hOC
      have HB3 := Lib.hid hb
      have HBB3 := Lib.hid (HBB.out.pure hb)
      clear hb hOC
      go_wp2_with (at_builtin; refine wpl_app _ rfl (.tmp 50) (.tmp 51) _ rfl 5 _ 1 1 Try.underlying22 info_b rfl (by omega) bc_len bc_one _ _ _ _ _ rfl HOC.out _ _ _ _ rfl HBB3.out (by omega) HB3.out.size ?_; intro A1 c1 w4 hown1 hfr1 hat1; have HO1 := Lib.hid hown1; have HF1 := Lib.hid hfr1; clear hown1 hfr1 hat1)
      have hb : Below _ _ w4 := below_fr HB3.out HF1.out (by rintro j ⟨ad, h, rfl⟩; exact (HOC.out.addr ad h).2.1)
      have HB := Lib.hid (pure_below HB.out hb)
      have HA := Lib.hid (HA.out.pure hb)
      have HBB := Lib.hid (HBB.out.pure hb)
      have HX2 := Lib.hid (HX2.out.pure hb)
      have hcap := HO1.out.cap.1
      clear hb HOC HB3 HBB3 HF1
      go_at_call 11
      refine (load_spec A1 _ c1 (n : Nat) (2 : Nat) _ _ HO1.out.is hcap (by omega)).mono ?_
      rw [back_load HW.out HUU.out HLA.out, back_ok HW.out (by omega)]
      rintro e w5 ⟨rfl, hb⟩
      have HB := Lib.hid (pure_below HB.out hb)
      have HA := Lib.hid (HA.out.pure hb)
      have HBB := Lib.hid (HBB.out.pure hb)
      have HX2 := Lib.hid (HX2.out.pure hb)
      clear hb HO1 hcap
      go_wp2_with fail
      have eN : wrap64 (IntKind.u64.wrap ((U : Int) * 281474976710656)) / 281474976710656 = sx 2 U := by
        have := HUU.out
        try unfold wrap64
        try simp only [wrap_u64]
        unfold sx
        simp only [Nat.reduceMul, Nat.reduceSub, Nat.reducePow] at *
        split <;> omega
      rw [eN]
      clear eN
      go_at_call 19
      refine (puti_spec A (n) c (2 : Nat) (sx 2 U) (l.take (n)) _ HA.out (by omega) (by omega) (sx_bd HW.out HUU.out)).mono ?_
      rintro e w6 ⟨AY, nY, cY, rfl, hOY, hb⟩
      rw [Int.toNat_natCast, putB_ok HW.out (sx_fits HW.out HUU.out), sx_bytes HW.out HUU.out] at hOY
      rw [Int.toNat_natCast, putE_ok HW.out (sx_fits HW.out HUU.out)]
      obtain rfl : n + 2 = nY := by rw [← hOY.1, List.length_append, HLA.out, leBytes_length]
      have HY2 := Lib.hid hOY.is
      have HB := Lib.hid (pure_below HB.out hb)
      have HBB := Lib.hid (HBB.out.pure hb)
      have HX2 := Lib.hid (HX2.out.pure hb)
      clear hb hOY HA
      go_wp2_with fail
      go_at_call 10
      refine (copyb_spec AY _ cY _ _ HY2.out (by omega)).mono ?_
      rintro e w7 ⟨AC, nC, cC2, rfl, hOC, hb⟩
      obtain rfl : n + 2 = nC := by rw [← hOC.1, HY2.out.1]
      have HOC := Lib.hid hOC
      have HB3 := Lib.hid hb
      have HBB3 := Lib.hid (HBB.out.pure hb)
      clear hb hOC
      go_wp2_with (at_builtin; refine wpl_app _ rfl (.tmp 78) (.tmp 79) _ rfl 5 _ 1 1 Try.underlying22 info_b rfl (by omega) bc_len bc_one _ _ _ _ _ rfl HOC.out _ _ _ _ rfl HBB3.out (by omega) HB3.out.size ?_; intro A2 c2 w8 hown1 hfr1 hat1; have HO1 := Lib.hid hown1; have HF1 := Lib.hid hfr1; clear hown1 hfr1 hat1)
      have hb : Below _ _ w8 := below_fr HB3.out HF1.out (by rintro j ⟨ad, h, rfl⟩; exact (HOC.out.addr ad h).2.1)
      have HB := Lib.hid (pure_below HB.out hb)
      have HY2 := Lib.hid (HY2.out.pure hb)
      have HX2 := Lib.hid (HX2.out.pure hb)
      have hcap := HO1.out.cap.1
      clear hb HOC HB3 HBB3 HF1 HBB
      go_at_call 13
      refine (loadi_spec A2 _ c2 (n : Nat) (2 : Nat) _ _ HO1.out.is hcap (by omega)).mono ?_
      rw [back_loadi HW.out HUU.out HLA.out, back_ok HW.out (by omega)]
      rintro e w9 ⟨rfl, hb⟩
      have HB := Lib.hid (pure_below HB.out hb)
      have HY2 := Lib.hid (HY2.out.pure hb)
      have HX2 := Lib.hid (HX2.out.pure hb)
      have ew : IntKind.i64.wrap (((n : Nat) : Int) + ((2 : Nat) : Int)) = (((n : Nat) : Int) + ((2 : Nat) : Int)) := IntWalk.i64_in _ (by omega)
      clear hb HO1 hcap
      go_wp2_with fail
      go_at_call 15
      refine (eqb_spec AX AY _ _ cX cY _ _ _ HX2.out HY2.out).mono ?_
      rw [eqB_self]
      rintro e w' ⟨rfl, rfl⟩
      go_wp2
      go_ret
      exact ⟨rfl, HB.out⟩
    · have h2' : 60 < m := by omega
      clear h2
      have hw : isW ((2 : Nat) : Int) = true := by decide
      have eU : (u : Int) / 281474976710656 = ((u / 281474976710656 : Nat) : Int) := by simp
      have hU : u / 281474976710656 < 2 ^ (8 * 2) := by have := HU.out; simp only [Nat.reduceMul, Nat.reducePow]; omega
      have hb2 : 0 ≤ u / 281474976710656 := Nat.zero_le _
      generalize u / 281474976710656 = U at eU hU hb2
      try simp only [Int.ediv_one] at eU
      have EU := Shut.mk eU
      have HUU := Shut.mk hU
      have HW := Shut.mk hw
      clear eU hU hw
      have HA := Lib.hid (HA.out.take bc_len (k := n) (by omega))
      have HBB := Lib.hid (HBB.out.take bc_len (k := 60) (by omega))
      go_enter Try.func5, Try.ntmps5
      go_wp2_with fail
      have HK := Lib.hid (Blk.new w 41 #[.slice A n c, .slice B m d])
      have H0 := Lib.hid ((Below.refl w.heap.size w).alloc (Nat.le_refl _) (.cells #[.slice A n c, .slice B m d] 41))
      go_at_call 16
      refine (works_spec _).mono ?_
      rintro e w1 ⟨rfl, hb⟩
      have v0 := ((HK.out.pure hb).cell 0).trans (show _ = some (Value.slice A n c) from rfl)
      have v1 := ((HK.out.pure hb).cell 1).trans (show _ = some (Value.slice B m d) from rfl)
      have HB := Lib.hid (pure_trans H0.out hb)
      clear hb
      go_wp2_with fail
      go_at_call 24
      refine (widen_spec x _).mono ?_
      rw [HX.out]
      rintro e w' ⟨rfl, rfl⟩
      go_wp2_with fail
      rw [EU.out]
      have HA := Lib.hid (HA.out.pure HB.out)
      have HBB := Lib.hid (HBB.out.pure HB.out)
      clear v0 v1
      go_at_call 17
      refine (put_spec A (n) c U (2 : Nat) (l.take (n)) _ HA.out (by omega) (by omega) (u_small HW.out HUU.out)).mono ?_
      rintro e w2 ⟨AX, nX, cX, rfl, hOX, hb⟩
      rw [Int.toNat_natCast, putB_ok HW.out (fitsU_of HUU.out)] at hOX
      rw [Int.toNat_natCast, putE_ok HW.out (fitsU_of HUU.out)]
      have hla := HA.out.1
      obtain rfl : n + 2 = nX := by rw [← hOX.1, List.length_append, hla, leBytes_length]
      have HLA := Shut.mk hla
      have HX2 := Lib.hid hOX.is
      have HB := Lib.hid (pure_below HB.out hb)
      have HA := Lib.hid (HA.out.pure hb)
      have HBB := Lib.hid (HBB.out.pure hb)
      clear hb hOX hla
      go_wp2_with fail
      go_at_call 10
      refine (copyb_spec AX _ cX _ _ HX2.out (by omega)).mono ?_
      rintro e w3 ⟨AC, nC, cC, rfl, hOC, hb⟩
      obtain rfl : n + 2 = nC := by rw [← hOC.1, HX2.out.1]
      have HOC := Lib.hid hOC
      have HB3 := Lib.hid hb
      have HBB3 := Lib.hid (HBB.out.pure hb)
      clear hb hOC
      go_wp2_with (at_builtin; refine wpl_app _ rfl (.tmp 50) (.tmp 51) _ rfl 5 _ 1 1 Try.underlying22 info_b rfl (by omega) bc_len bc_one _ _ _ _ _ rfl HOC.out _ _ _ _ rfl HBB3.out (by omega) HB3.out.size ?_; intro A1 c1 w4 hown1 hfr1 hat1; have HO1 := Lib.hid hown1; have HF1 := Lib.hid hfr1; clear hown1 hfr1 hat1)
      have hb : Below _ _ w4 := below_fr HB3.out HF1.out (by rintro j ⟨ad, h, rfl⟩; exact (HOC.out.addr ad h).2.1)
      have HB := Lib.hid (pure_below HB.out hb)
      have HA := Lib.hid (HA.out.pure hb)
      have HBB := Lib.hid (HBB.out.pure hb)
      have HX2 := Lib.hid (HX2.out.pure hb)
      have hcap := HO1.out.cap.1
      clear hb HOC HB3 HBB3 HF1
      go_at_call 11
      refine (load_spec A1 _ c1 (n : Nat) (2 : Nat) _ _ HO1.out.is hcap (by omega)).mono ?_
      rw [back_load HW.out HUU.out HLA.out, back_ok HW.out (by omega)]
      rintro e w5 ⟨rfl, hb⟩
      have HB := Lib.hid (pure_below HB.out hb)
      have HA := Lib.hid (HA.out.pure hb)
      have HBB := Lib.hid (HBB.out.pure hb)
      have HX2 := Lib.hid (HX2.out.pure hb)
      clear hb HO1 hcap
      go_wp2_with fail
      have eN : wrap64 (IntKind.u64.wrap ((U : Int) * 281474976710656)) / 281474976710656 = sx 2 U := by
        have := HUU.out
        try unfold wrap64
        try simp only [wrap_u64]
        unfold sx
        simp only [Nat.reduceMul, Nat.reduceSub, Nat.reducePow] at *
        split <;> omega
      rw [eN]
      clear eN
      go_at_call 19
      refine (puti_spec A (n) c (2 : Nat) (sx 2 U) (l.take (n)) _ HA.out (by omega) (by omega) (sx_bd HW.out HUU.out)).mono ?_
      rintro e w6 ⟨AY, nY, cY, rfl, hOY, hb⟩
      rw [Int.toNat_natCast, putB_ok HW.out (sx_fits HW.out HUU.out), sx_bytes HW.out HUU.out] at hOY
      rw [Int.toNat_natCast, putE_ok HW.out (sx_fits HW.out HUU.out)]
      obtain rfl : n + 2 = nY := by rw [← hOY.1, List.length_append, HLA.out, leBytes_length]
      have HY2 := Lib.hid hOY.is
      have HB := Lib.hid (pure_below HB.out hb)
      have HBB := Lib.hid (HBB.out.pure hb)
      have HX2 := Lib.hid (HX2.out.pure hb)
      clear hb hOY HA
      go_wp2_with fail
      go_at_call 10
      refine (copyb_spec AY _ cY _ _ HY2.out (by omega)).mono ?_
      rintro e w7 ⟨AC, nC, cC2, rfl, hOC, hb⟩
      obtain rfl : n + 2 = nC := by rw [← hOC.1, HY2.out.1]
      have HOC := Lib.hid hOC
      have HB3 := Lib.hid hb
      have HBB3 := Lib.hid (HBB.out.pure hb)
      clear hb hOC
      go_wp2_with (at_builtin; refine wpl_app _ rfl (.tmp 78) (.tmp 79) _ rfl 5 _ 1 1 Try.underlying22 info_b rfl (by omega) bc_len bc_one _ _ _ _ _ rfl HOC.out _ _ _ _ rfl HBB3.out (by omega) HB3.out.size ?_; intro A2 c2 w8 hown1 hfr1 hat1; have HO1 := Lib.hid hown1; have HF1 := Lib.hid hfr1; clear hown1 hfr1 hat1)
      have hb : Below _ _ w8 := below_fr HB3.out HF1.out (by rintro j ⟨ad, h, rfl⟩; exact (HOC.out.addr ad h).2.1)
      have HB := Lib.hid (pure_below HB.out hb)
      have HY2 := Lib.hid (HY2.out.pure hb)
      have HX2 := Lib.hid (HX2.out.pure hb)
      have hcap := HO1.out.cap.1
      clear hb HOC HB3 HBB3 HF1 HBB
      go_at_call 13
      refine (loadi_spec A2 _ c2 (n : Nat) (2 : Nat) _ _ HO1.out.is hcap (by omega)).mono ?_
      rw [back_loadi HW.out HUU.out HLA.out, back_ok HW.out (by omega)]
      rintro e w9 ⟨rfl, hb⟩
      have HB := Lib.hid (pure_below HB.out hb)
      have HY2 := Lib.hid (HY2.out.pure hb)
      have HX2 := Lib.hid (HX2.out.pure hb)
      have ew : IntKind.i64.wrap (((n : Nat) : Int) + ((2 : Nat) : Int)) = (((n : Nat) : Int) + ((2 : Nat) : Int)) := IntWalk.i64_in _ (by omega)
      clear hb HO1 hcap
      go_wp2_with fail
      go_at_call 15
      refine (eqb_spec AX AY _ _ cX cY _ _ _ HX2.out HY2.out).mono ?_
      rw [eqB_self]
      rintro e w' ⟨rfl, rfl⟩
      go_wp2
      go_ret
      exact ⟨rfl, HB.out⟩
  · have h1' : 60 < n := by omega
    clear h1
    by_cases h2 : m ≤ 60
    · have hw : isW ((2 : Nat) : Int) = true := by decide
      have eU : (u : Int) / 281474976710656 = ((u / 281474976710656 : Nat) : Int) := by simp
      have hU : u / 281474976710656 < 2 ^ (8 * 2) := by have := HU.out; simp only [Nat.reduceMul, Nat.reducePow]; omega
      have hb2 : 0 ≤ u / 281474976710656 := Nat.zero_le _
      generalize u / 281474976710656 = U at eU hU hb2
      try simp only [Int.ediv_one] at eU
      have EU := Shut.mk eU
      have HUU := Shut.mk hU
      have HW := Shut.mk hw
      clear eU hU hw
      have HA := Lib.hid (HA.out.take bc_len (k := 60) (by omega))
      have HBB := Lib.hid (HBB.out.take bc_len (k := m) (by omega))
      go_enter Try.func5, Try.ntmps5
      go_wp2_with fail
      have HK := Lib.hid (Blk.new w 41 #[.slice A n c, .slice B m d])
      have H0 := Lib.hid ((Below.refl w.heap.size w).alloc (Nat.le_refl _) (.cells #[.slice A n c, .slice B m d] 41))
      go_at_call 16
      refine (works_spec _).mono ?_
      rintro e w1 ⟨rfl, hb⟩
      have v0 := ((HK.out.pure hb).cell 0).trans (show _ = some (Value.slice A n c) from rfl)
      have v1 := ((HK.out.pure hb).cell 1).trans (show _ = some (Value.slice B m d) from rfl)
      have HB := Lib.hid (pure_trans H0.out hb)
      clear hb
      go_wp2_with fail
      go_at_call 24
      refine (widen_spec x _).mono ?_
      rw [HX.out]
      rintro e w' ⟨rfl, rfl⟩
      go_wp2_with fail
      rw [EU.out]
      have HA := Lib.hid (HA.out.pure HB.out)
      have HBB := Lib.hid (HBB.out.pure HB.out)
      clear v0 v1
      go_at_call 17
      refine (put_spec A (60) c U (2 : Nat) (l.take (60)) _ HA.out (by omega) (by omega) (u_small HW.out HUU.out)).mono ?_
      rintro e w2 ⟨AX, nX, cX, rfl, hOX, hb⟩
      rw [Int.toNat_natCast, putB_ok HW.out (fitsU_of HUU.out)] at hOX
      rw [Int.toNat_natCast, putE_ok HW.out (fitsU_of HUU.out)]
      have hla := HA.out.1
      obtain rfl : 60 + 2 = nX := by rw [← hOX.1, List.length_append, hla, leBytes_length]
      have HLA := Shut.mk hla
      have HX2 := Lib.hid hOX.is
      have HB := Lib.hid (pure_below HB.out hb)
      have HA := Lib.hid (HA.out.pure hb)
      have HBB := Lib.hid (HBB.out.pure hb)
      clear hb hOX hla
      go_wp2_with fail
      go_at_call 10
      refine (copyb_spec AX _ cX _ _ HX2.out (by omega)).mono ?_
      rintro e w3 ⟨AC, nC, cC, rfl, hOC, hb⟩
      obtain rfl : 60 + 2 = nC := by rw [← hOC.1, HX2.out.1]
      have HOC := Lib.hid hOC
      have HB3 := Lib.hid hb
      have HBB3 := Lib.hid (HBB.out.pure hb)
      clear hb hOC
      go_wp2_with (at_builtin; refine wpl_app _ rfl (.tmp 50) (.tmp 51) _ rfl 5 _ 1 1 Try.underlying22 info_b rfl (by omega) bc_len bc_one _ _ _ _ _ rfl HOC.out _ _ _ _ rfl HBB3.out (by omega) HB3.out.size ?_; intro A1 c1 w4 hown1 hfr1 hat1; have HO1 := Lib.hid hown1; have HF1 := Lib.hid hfr1; clear hown1 hfr1 hat1)
      have hb : Below _ _ w4 := below_fr HB3.out HF1.out (by rintro j ⟨ad, h, rfl⟩; exact (HOC.out.addr ad h).2.1)
      have HB := Lib.hid (pure_below HB.out hb)
      have HA := Lib.hid (HA.out.pure hb)
      have HBB := Lib.hid (HBB.out.pure hb)
      have HX2 := Lib.hid (HX2.out.pure hb)
      have hcap := HO1.out.cap.1
      clear hb HOC HB3 HBB3 HF1
      go_at_call 11
      refine (load_spec A1 _ c1 (60 : Nat) (2 : Nat) _ _ HO1.out.is hcap (by omega)).mono ?_
      rw [back_load HW.out HUU.out HLA.out, back_ok HW.out (by omega)]
      rintro e w5 ⟨rfl, hb⟩
      have HB := Lib.hid (pure_below HB.out hb)
      have HA := Lib.hid (HA.out.pure hb)
      have HBB := Lib.hid (HBB.out.pure hb)
      have HX2 := Lib.hid (HX2.out.pure hb)
      clear hb HO1 hcap
      go_wp2_with fail
      have eN : wrap64 (IntKind.u64.wrap ((U : Int) * 281474976710656)) / 281474976710656 = sx 2 U := by
        have := HUU.out
        try unfold wrap64
        try simp only [wrap_u64]
        unfold sx
        simp only [Nat.reduceMul, Nat.reduceSub, Nat.reducePow] at *
        split <;> omega
      rw [eN]
      clear eN
      go_at_call 19
      refine (puti_spec A (60) c (2 : Nat) (sx 2 U) (l.take (60)) _ HA.out (by omega) (by omega) (sx_bd HW.out HUU.out)).mono ?_
      rintro e w6 ⟨AY, nY, cY, rfl, hOY, hb⟩
      rw [Int.toNat_natCast, putB_ok HW.out (sx_fits HW.out HUU.out), sx_bytes HW.out HUU.out] at hOY
      rw [Int.toNat_natCast, putE_ok HW.out (sx_fits HW.out HUU.out)]
      obtain rfl : 60 + 2 = nY := by rw [← hOY.1, List.length_append, HLA.out, leBytes_length]
      have HY2 := Lib.hid hOY.is
      have HB := Lib.hid (pure_below HB.out hb)
      have HBB := Lib.hid (HBB.out.pure hb)
      have HX2 := Lib.hid (HX2.out.pure hb)
      clear hb hOY HA
      go_wp2_with fail
      go_at_call 10
      refine (copyb_spec AY _ cY _ _ HY2.out (by omega)).mono ?_
      rintro e w7 ⟨AC, nC, cC2, rfl, hOC, hb⟩
      obtain rfl : 60 + 2 = nC := by rw [← hOC.1, HY2.out.1]
      have HOC := Lib.hid hOC
      have HB3 := Lib.hid hb
      have HBB3 := Lib.hid (HBB.out.pure hb)
      clear hb hOC
      go_wp2_with (at_builtin; refine wpl_app _ rfl (.tmp 78) (.tmp 79) _ rfl 5 _ 1 1 Try.underlying22 info_b rfl (by omega) bc_len bc_one _ _ _ _ _ rfl HOC.out _ _ _ _ rfl HBB3.out (by omega) HB3.out.size ?_; intro A2 c2 w8 hown1 hfr1 hat1; have HO1 := Lib.hid hown1; have HF1 := Lib.hid hfr1; clear hown1 hfr1 hat1)
      have hb : Below _ _ w8 := below_fr HB3.out HF1.out (by rintro j ⟨ad, h, rfl⟩; exact (HOC.out.addr ad h).2.1)
      have HB := Lib.hid (pure_below HB.out hb)
      have HY2 := Lib.hid (HY2.out.pure hb)
      have HX2 := Lib.hid (HX2.out.pure hb)
      have hcap := HO1.out.cap.1
      clear hb HOC HB3 HBB3 HF1 HBB
      go_at_call 13
      refine (loadi_spec A2 _ c2 (60 : Nat) (2 : Nat) _ _ HO1.out.is hcap (by omega)).mono ?_
      rw [back_loadi HW.out HUU.out HLA.out, back_ok HW.out (by omega)]
      rintro e w9 ⟨rfl, hb⟩
      have HB := Lib.hid (pure_below HB.out hb)
      have HY2 := Lib.hid (HY2.out.pure hb)
      have HX2 := Lib.hid (HX2.out.pure hb)
      have ew : IntKind.i64.wrap (((60 : Nat) : Int) + ((2 : Nat) : Int)) = (((60 : Nat) : Int) + ((2 : Nat) : Int)) := IntWalk.i64_in _ (by omega)
      clear hb HO1 hcap
      go_wp2_with fail
      go_at_call 15
      refine (eqb_spec AX AY _ _ cX cY _ _ _ HX2.out HY2.out).mono ?_
      rw [eqB_self]
      rintro e w' ⟨rfl, rfl⟩
      go_wp2
      go_ret
      exact ⟨rfl, HB.out⟩
    · have h2' : 60 < m := by omega
      clear h2
      have hw : isW ((2 : Nat) : Int) = true := by decide
      have eU : (u : Int) / 281474976710656 = ((u / 281474976710656 : Nat) : Int) := by simp
      have hU : u / 281474976710656 < 2 ^ (8 * 2) := by have := HU.out; simp only [Nat.reduceMul, Nat.reducePow]; omega
      have hb2 : 0 ≤ u / 281474976710656 := Nat.zero_le _
      generalize u / 281474976710656 = U at eU hU hb2
      try simp only [Int.ediv_one] at eU
      have EU := Shut.mk eU
      have HUU := Shut.mk hU
      have HW := Shut.mk hw
      clear eU hU hw
      have HA := Lib.hid (HA.out.take bc_len (k := 60) (by omega))
      have HBB := Lib.hid (HBB.out.take bc_len (k := 60) (by omega))
      go_enter Try.func5, Try.ntmps5
      go_wp2_with fail
      have HK := Lib.hid (Blk.new w 41 #[.slice A n c, .slice B m d])
      have H0 := Lib.hid ((Below.refl w.heap.size w).alloc (Nat.le_refl _) (.cells #[.slice A n c, .slice B m d] 41))
      go_at_call 16
      refine (works_spec _).mono ?_
      rintro e w1 ⟨rfl, hb⟩
      have v0 := ((HK.out.pure hb).cell 0).trans (show _ = some (Value.slice A n c) from rfl)
      have v1 := ((HK.out.pure hb).cell 1).trans (show _ = some (Value.slice B m d) from rfl)
      have HB := Lib.hid (pure_trans H0.out hb)
      clear hb
      go_wp2_with fail
      go_at_call 24
      refine (widen_spec x _).mono ?_
      rw [HX.out]
      rintro e w' ⟨rfl, rfl⟩
      go_wp2_with fail
      rw [EU.out]
      have HA := Lib.hid (HA.out.pure HB.out)
      have HBB := Lib.hid (HBB.out.pure HB.out)
      clear v0 v1
      go_at_call 17
      refine (put_spec A (60) c U (2 : Nat) (l.take (60)) _ HA.out (by omega) (by omega) (u_small HW.out HUU.out)).mono ?_
      rintro e w2 ⟨AX, nX, cX, rfl, hOX, hb⟩
      rw [Int.toNat_natCast, putB_ok HW.out (fitsU_of HUU.out)] at hOX
      rw [Int.toNat_natCast, putE_ok HW.out (fitsU_of HUU.out)]
      have hla := HA.out.1
      obtain rfl : 60 + 2 = nX := by rw [← hOX.1, List.length_append, hla, leBytes_length]
      have HLA := Shut.mk hla
      have HX2 := Lib.hid hOX.is
      have HB := Lib.hid (pure_below HB.out hb)
      have HA := Lib.hid (HA.out.pure hb)
      have HBB := Lib.hid (HBB.out.pure hb)
      clear hb hOX hla
      go_wp2_with fail
      go_at_call 10
      refine (copyb_spec AX _ cX _ _ HX2.out (by omega)).mono ?_
      rintro e w3 ⟨AC, nC, cC, rfl, hOC, hb⟩
      obtain rfl : 60 + 2 = nC := by rw [← hOC.1, HX2.out.1]
      have HOC := Lib.hid hOC
      have HB3 := Lib.hid hb
      have HBB3 := Lib.hid (HBB.out.pure hb)
      clear hb hOC
      go_wp2_with (at_builtin; refine wpl_app _ rfl (.tmp 50) (.tmp 51) _ rfl 5 _ 1 1 Try.underlying22 info_b rfl (by omega) bc_len bc_one _ _ _ _ _ rfl HOC.out _ _ _ _ rfl HBB3.out (by omega) HB3.out.size ?_; intro A1 c1 w4 hown1 hfr1 hat1; have HO1 := Lib.hid hown1; have HF1 := Lib.hid hfr1; clear hown1 hfr1 hat1)
      have hb : Below _ _ w4 := below_fr HB3.out HF1.out (by rintro j ⟨ad, h, rfl⟩; exact (HOC.out.addr ad h).2.1)
      have HB := Lib.hid (pure_below HB.out hb)
      have HA := Lib.hid (HA.out.pure hb)
      have HBB := Lib.hid (HBB.out.pure hb)
      have HX2 := Lib.hid (HX2.out.pure hb)
      have hcap := HO1.out.cap.1
      clear hb HOC HB3 HBB3 HF1
      go_at_call 11
      refine (load_spec A1 _ c1 (60 : Nat) (2 : Nat) _ _ HO1.out.is hcap (by omega)).mono ?_
      rw [back_load HW.out HUU.out HLA.out, back_ok HW.out (by omega)]
      rintro e w5 ⟨rfl, hb⟩
      have HB := Lib.hid (pure_below HB.out hb)
      have HA := Lib.hid (HA.out.pure hb)
      have HBB := Lib.hid (HBB.out.pure hb)
      have HX2 := Lib.hid (HX2.out.pure hb)
      clear hb HO1 hcap
      go_wp2_with fail
      have eN : wrap64 (IntKind.u64.wrap ((U : Int) * 281474976710656)) / 281474976710656 = sx 2 U := by
        have := HUU.out
        try unfold wrap64
        try simp only [wrap_u64]
        unfold sx
        simp only [Nat.reduceMul, Nat.reduceSub, Nat.reducePow] at *
        split <;> omega
      rw [eN]
      clear eN
      go_at_call 19
      refine (puti_spec A (60) c (2 : Nat) (sx 2 U) (l.take (60)) _ HA.out (by omega) (by omega) (sx_bd HW.out HUU.out)).mono ?_
      rintro e w6 ⟨AY, nY, cY, rfl, hOY, hb⟩
      rw [Int.toNat_natCast, putB_ok HW.out (sx_fits HW.out HUU.out), sx_bytes HW.out HUU.out] at hOY
      rw [Int.toNat_natCast, putE_ok HW.out (sx_fits HW.out HUU.out)]
      obtain rfl : 60 + 2 = nY := by rw [← hOY.1, List.length_append, HLA.out, leBytes_length]
      have HY2 := Lib.hid hOY.is
      have HB := Lib.hid (pure_below HB.out hb)
      have HBB := Lib.hid (HBB.out.pure hb)
      have HX2 := Lib.hid (HX2.out.pure hb)
      clear hb hOY HA
      go_wp2_with fail
      go_at_call 10
      refine (copyb_spec AY _ cY _ _ HY2.out (by omega)).mono ?_
      rintro e w7 ⟨AC, nC, cC2, rfl, hOC, hb⟩
      obtain rfl : 60 + 2 = nC := by rw [← hOC.1, HY2.out.1]
      have HOC := Lib.hid hOC
      have HB3 := Lib.hid hb
      have HBB3 := Lib.hid (HBB.out.pure hb)
      clear hb hOC
      go_wp2_with (at_builtin; refine wpl_app _ rfl (.tmp 78) (.tmp 79) _ rfl 5 _ 1 1 Try.underlying22 info_b rfl (by omega) bc_len bc_one _ _ _ _ _ rfl HOC.out _ _ _ _ rfl HBB3.out (by omega) HB3.out.size ?_; intro A2 c2 w8 hown1 hfr1 hat1; have HO1 := Lib.hid hown1; have HF1 := Lib.hid hfr1; clear hown1 hfr1 hat1)
      have hb : Below _ _ w8 := below_fr HB3.out HF1.out (by rintro j ⟨ad, h, rfl⟩; exact (HOC.out.addr ad h).2.1)
      have HB := Lib.hid (pure_below HB.out hb)
      have HY2 := Lib.hid (HY2.out.pure hb)
      have HX2 := Lib.hid (HX2.out.pure hb)
      have hcap := HO1.out.cap.1
      clear hb HOC HB3 HBB3 HF1 HBB
      go_at_call 13
      refine (loadi_spec A2 _ c2 (60 : Nat) (2 : Nat) _ _ HO1.out.is hcap (by omega)).mono ?_
      rw [back_loadi HW.out HUU.out HLA.out, back_ok HW.out (by omega)]
      rintro e w9 ⟨rfl, hb⟩
      have HB := Lib.hid (pure_below HB.out hb)
      have HY2 := Lib.hid (HY2.out.pure hb)
      have HX2 := Lib.hid (HX2.out.pure hb)
      have ew : IntKind.i64.wrap (((60 : Nat) : Int) + ((2 : Nat) : Int)) = (((60 : Nat) : Int) + ((2 : Nat) : Int)) := IntWalk.i64_in _ (by omega)
      clear hb HO1 hcap
      go_wp2_with fail
      go_at_call 15
      refine (eqb_spec AX AY _ _ cX cY _ _ _ HX2.out HY2.out).mono ?_
      rw [eqB_self]
      rintro e w' ⟨rfl, rfl⟩
      go_wp2
      go_ret
      exact ⟨rfl, HB.out⟩
set_option maxHeartbeats 2000000 in
theorem leback_4 (A B : Option Addr) (n c m d : Nat) (x : Int) (u : Nat) (l k : List UInt8) (w : World) (ha : IsB w A n l) (hb : IsB w B m k) (hc : n ≤ c) (hd : m ≤ d) (hu : (u : Int) < 18446744073709551616) (hx : wd x = 4) :
    Calls Try.prog 5 #[.agg #[.slice A n c, .slice B m d], .int .i64 x, .int .u64 u] w fun e w' => e = .returned (.bool true) ∧ Below w.heap.size w w' := by
  have HU := Shut.mk hu
  have HX := Shut.mk hx
  have HA := Lib.hid ha
  have HBB := Lib.hid hb
  clear hu hx ha hb
  by_cases h1 : n ≤ 60
  · by_cases h2 : m ≤ 60
    · have hw : isW ((4 : Nat) : Int) = true := by decide
      have eU : (u : Int) / 4294967296 = ((u / 4294967296 : Nat) : Int) := by simp
      have hU : u / 4294967296 < 2 ^ (8 * 4) := by have := HU.out; simp only [Nat.reduceMul, Nat.reducePow]; omega
      have hb2 : 0 ≤ u / 4294967296 := Nat.zero_le _
      generalize u / 4294967296 = U at eU hU hb2
      try simp only [Int.ediv_one] at eU
      have EU := Shut.mk eU
      have HUU := Shut.mk hU
      have HW := Shut.mk hw
      clear eU hU hw
      have HA := Lib.hid (HA.out.take bc_len (k := n) (by omega))
      have HBB := Lib.hid (HBB.out.take bc_len (k := m) (by omega))
      go_enter Try.func5, Try.ntmps5
      go_wp2_with fail
      have HK := Lib.hid (Blk.new w 41 #[.slice A n c, .slice B m d])
      have H0 := Lib.hid ((Below.refl w.heap.size w).alloc (Nat.le_refl _) (.cells #[.slice A n c, .slice B m d] 41))
      go_at_call 16
      refine (works_spec _).mono ?_
      rintro e w1 ⟨rfl, hb⟩
      have v0 := ((HK.out.pure hb).cell 0).trans (show _ = some (Value.slice A n c) from rfl)
      have v1 := ((HK.out.pure hb).cell 1).trans (show _ = some (Value.slice B m d) from rfl)
      have HB := Lib.hid (pure_trans H0.out hb)
      clear hb
      go_wp2_with fail
      go_at_call 24
      refine (widen_spec x _).mono ?_
      rw [HX.out]
      rintro e w' ⟨rfl, rfl⟩
      go_wp2_with fail
      rw [EU.out]
      have HA := Lib.hid (HA.out.pure HB.out)
      have HBB := Lib.hid (HBB.out.pure HB.out)
      clear v0 v1
      go_at_call 17
      refine (put_spec A (n) c U (4 : Nat) (l.take (n)) _ HA.out (by omega) (by omega) (u_small HW.out HUU.out)).mono ?_
      rintro e w2 ⟨AX, nX, cX, rfl, hOX, hb⟩
      rw [Int.toNat_natCast, putB_ok HW.out (fitsU_of HUU.out)] at hOX
      rw [Int.toNat_natCast, putE_ok HW.out (fitsU_of HUU.out)]
      have hla := HA.out.1
      obtain rfl : n + 4 = nX := by rw [← hOX.1, List.length_append, hla, leBytes_length]
      have HLA := Shut.mk hla
      have HX2 := Lib.hid hOX.is
      have HB := Lib.hid (pure_below HB.out hb)
      have HA := Lib.hid (HA.out.pure hb)
      have HBB := Lib.hid (HBB.out.pure hb)
      clear hb hOX hla
      go_wp2_with fail
      go_at_call 10
      refine (copyb_spec AX _ cX _ _ HX2.out (by omega)).mono ?_
      rintro e w3 ⟨AC, nC, cC, rfl, hOC, hb⟩
      obtain rfl : n + 4 = nC := by rw [← hOC.1, HX2.out.1]
      have HOC := Lib.hid hOC
      have HB3 := Lib.hid hb
      have HBB3 := Lib.hid (HBB.out.pure hb)
      clear hb hOC
      go_wp2_with (at_builtin; refine wpl_app _ rfl (.tmp 50) (.tmp 51) _ rfl 5 _ 1 1 Try.underlying22 info_b rfl (by omega) bc_len bc_one _ _ _ _ _ rfl HOC.out _ _ _ _ rfl HBB3.out (by omega) HB3.out.size ?_; intro A1 c1 w4 hown1 hfr1 hat1; have HO1 := Lib.hid hown1; have HF1 := Lib.hid hfr1; clear hown1 hfr1 hat1)
      have hb : Below _ _ w4 := below_fr HB3.out HF1.out (by rintro j ⟨ad, h, rfl⟩; exact (HOC.out.addr ad h).2.1)
      have HB := Lib.hid (pure_below HB.out hb)
      have HA := Lib.hid (HA.out.pure hb)
      have HBB := Lib.hid (HBB.out.pure hb)
      have HX2 := Lib.hid (HX2.out.pure hb)
      have hcap := HO1.out.cap.1
      clear hb HOC HB3 HBB3 HF1
      go_at_call 11
      refine (load_spec A1 _ c1 (n : Nat) (4 : Nat) _ _ HO1.out.is hcap (by omega)).mono ?_
      rw [back_load HW.out HUU.out HLA.out, back_ok HW.out (by omega)]
      rintro e w5 ⟨rfl, hb⟩
      have HB := Lib.hid (pure_below HB.out hb)
      have HA := Lib.hid (HA.out.pure hb)
      have HBB := Lib.hid (HBB.out.pure hb)
      have HX2 := Lib.hid (HX2.out.pure hb)
      clear hb HO1 hcap
      go_wp2_with fail
      have eN : wrap64 (IntKind.u64.wrap ((U : Int) * 4294967296)) / 4294967296 = sx 4 U := by
        have := HUU.out
        try unfold wrap64
        try simp only [wrap_u64]
        unfold sx
        simp only [Nat.reduceMul, Nat.reduceSub, Nat.reducePow] at *
        split <;> omega
      rw [eN]
      clear eN
      go_at_call 19
      refine (puti_spec A (n) c (4 : Nat) (sx 4 U) (l.take (n)) _ HA.out (by omega) (by omega) (sx_bd HW.out HUU.out)).mono ?_
      rintro e w6 ⟨AY, nY, cY, rfl, hOY, hb⟩
      rw [Int.toNat_natCast, putB_ok HW.out (sx_fits HW.out HUU.out), sx_bytes HW.out HUU.out] at hOY
      rw [Int.toNat_natCast, putE_ok HW.out (sx_fits HW.out HUU.out)]
      obtain rfl : n + 4 = nY := by rw [← hOY.1, List.length_append, HLA.out, leBytes_length]
      have HY2 := Lib.hid hOY.is
      have HB := Lib.hid (pure_below HB.out hb)
      have HBB := Lib.hid (HBB.out.pure hb)
      have HX2 := Lib.hid (HX2.out.pure hb)
      clear hb hOY HA
      go_wp2_with fail
      go_at_call 10
      refine (copyb_spec AY _ cY _ _ HY2.out (by omega)).mono ?_
      rintro e w7 ⟨AC, nC, cC2, rfl, hOC, hb⟩
      obtain rfl : n + 4 = nC := by rw [← hOC.1, HY2.out.1]
      have HOC := Lib.hid hOC
      have HB3 := Lib.hid hb
      have HBB3 := Lib.hid (HBB.out.pure hb)
      clear hb hOC
      go_wp2_with (at_builtin; refine wpl_app _ rfl (.tmp 78) (.tmp 79) _ rfl 5 _ 1 1 Try.underlying22 info_b rfl (by omega) bc_len bc_one _ _ _ _ _ rfl HOC.out _ _ _ _ rfl HBB3.out (by omega) HB3.out.size ?_; intro A2 c2 w8 hown1 hfr1 hat1; have HO1 := Lib.hid hown1; have HF1 := Lib.hid hfr1; clear hown1 hfr1 hat1)
      have hb : Below _ _ w8 := below_fr HB3.out HF1.out (by rintro j ⟨ad, h, rfl⟩; exact (HOC.out.addr ad h).2.1)
      have HB := Lib.hid (pure_below HB.out hb)
      have HY2 := Lib.hid (HY2.out.pure hb)
      have HX2 := Lib.hid (HX2.out.pure hb)
      have hcap := HO1.out.cap.1
      clear hb HOC HB3 HBB3 HF1 HBB
      go_at_call 13
      refine (loadi_spec A2 _ c2 (n : Nat) (4 : Nat) _ _ HO1.out.is hcap (by omega)).mono ?_
      rw [back_loadi HW.out HUU.out HLA.out, back_ok HW.out (by omega)]
      rintro e w9 ⟨rfl, hb⟩
      have HB := Lib.hid (pure_below HB.out hb)
      have HY2 := Lib.hid (HY2.out.pure hb)
      have HX2 := Lib.hid (HX2.out.pure hb)
      have ew : IntKind.i64.wrap (((n : Nat) : Int) + ((4 : Nat) : Int)) = (((n : Nat) : Int) + ((4 : Nat) : Int)) := IntWalk.i64_in _ (by omega)
      clear hb HO1 hcap
      go_wp2_with fail
      go_at_call 15
      refine (eqb_spec AX AY _ _ cX cY _ _ _ HX2.out HY2.out).mono ?_
      rw [eqB_self]
      rintro e w' ⟨rfl, rfl⟩
      go_wp2
      go_ret
      exact ⟨rfl, HB.out⟩
    · have h2' : 60 < m := by omega
      clear h2
      have hw : isW ((4 : Nat) : Int) = true := by decide
      have eU : (u : Int) / 4294967296 = ((u / 4294967296 : Nat) : Int) := by simp
      have hU : u / 4294967296 < 2 ^ (8 * 4) := by have := HU.out; simp only [Nat.reduceMul, Nat.reducePow]; omega
      have hb2 : 0 ≤ u / 4294967296 := Nat.zero_le _
      generalize u / 4294967296 = U at eU hU hb2
      try simp only [Int.ediv_one] at eU
      have EU := Shut.mk eU
      have HUU := Shut.mk hU
      have HW := Shut.mk hw
      clear eU hU hw
      have HA := Lib.hid (HA.out.take bc_len (k := n) (by omega))
      have HBB := Lib.hid (HBB.out.take bc_len (k := 60) (by omega))
      go_enter Try.func5, Try.ntmps5
      go_wp2_with fail
      have HK := Lib.hid (Blk.new w 41 #[.slice A n c, .slice B m d])
      have H0 := Lib.hid ((Below.refl w.heap.size w).alloc (Nat.le_refl _) (.cells #[.slice A n c, .slice B m d] 41))
      go_at_call 16
      refine (works_spec _).mono ?_
      rintro e w1 ⟨rfl, hb⟩
      have v0 := ((HK.out.pure hb).cell 0).trans (show _ = some (Value.slice A n c) from rfl)
      have v1 := ((HK.out.pure hb).cell 1).trans (show _ = some (Value.slice B m d) from rfl)
      have HB := Lib.hid (pure_trans H0.out hb)
      clear hb
      go_wp2_with fail
      go_at_call 24
      refine (widen_spec x _).mono ?_
      rw [HX.out]
      rintro e w' ⟨rfl, rfl⟩
      go_wp2_with fail
      rw [EU.out]
      have HA := Lib.hid (HA.out.pure HB.out)
      have HBB := Lib.hid (HBB.out.pure HB.out)
      clear v0 v1
      go_at_call 17
      refine (put_spec A (n) c U (4 : Nat) (l.take (n)) _ HA.out (by omega) (by omega) (u_small HW.out HUU.out)).mono ?_
      rintro e w2 ⟨AX, nX, cX, rfl, hOX, hb⟩
      rw [Int.toNat_natCast, putB_ok HW.out (fitsU_of HUU.out)] at hOX
      rw [Int.toNat_natCast, putE_ok HW.out (fitsU_of HUU.out)]
      have hla := HA.out.1
      obtain rfl : n + 4 = nX := by rw [← hOX.1, List.length_append, hla, leBytes_length]
      have HLA := Shut.mk hla
      have HX2 := Lib.hid hOX.is
      have HB := Lib.hid (pure_below HB.out hb)
      have HA := Lib.hid (HA.out.pure hb)
      have HBB := Lib.hid (HBB.out.pure hb)
      clear hb hOX hla
      go_wp2_with fail
      go_at_call 10
      refine (copyb_spec AX _ cX _ _ HX2.out (by omega)).mono ?_
      rintro e w3 ⟨AC, nC, cC, rfl, hOC, hb⟩
      obtain rfl : n + 4 = nC := by rw [← hOC.1, HX2.out.1]
      have HOC := Lib.hid hOC
      have HB3 := Lib.hid hb
      have HBB3 := Lib.hid (HBB.out.pure hb)
      clear hb hOC
      go_wp2_with (at_builtin; refine wpl_app _ rfl (.tmp 50) (.tmp 51) _ rfl 5 _ 1 1 Try.underlying22 info_b rfl (by omega) bc_len bc_one _ _ _ _ _ rfl HOC.out _ _ _ _ rfl HBB3.out (by omega) HB3.out.size ?_; intro A1 c1 w4 hown1 hfr1 hat1; have HO1 := Lib.hid hown1; have HF1 := Lib.hid hfr1; clear hown1 hfr1 hat1)
      have hb : Below _ _ w4 := below_fr HB3.out HF1.out (by rintro j ⟨ad, h, rfl⟩; exact (HOC.out.addr ad h).2.1)
      have HB := Lib.hid (pure_below HB.out hb)
      have HA := Lib.hid (HA.out.pure hb)
      have HBB := Lib.hid (HBB.out.pure hb)
      have HX2 := Lib.hid (HX2.out.pure hb)
      have hcap := HO1.out.cap.1
      clear hb HOC HB3 HBB3 HF1
      go_at_call 11
      refine (load_spec A1 _ c1 (n : Nat) (4 : Nat) _ _ HO1.out.is hcap (by omega)).mono ?_
      rw [back_load HW.out HUU.out HLA.out, back_ok HW.out (by omega)]
      rintro e w5 ⟨rfl, hb⟩
      have HB := Lib.hid (pure_below HB.out hb)
      have HA := Lib.hid (HA.out.pure hb)
      have HBB := Lib.hid (HBB.out.pure hb)
      have HX2 := Lib.hid (HX2.out.pure hb)
      clear hb HO1 hcap
      go_wp2_with fail
      have eN : wrap64 (IntKind.u64.wrap ((U : Int) * 4294967296)) / 4294967296 = sx 4 U := by
        have := HUU.out
        try unfold wrap64
        try simp only [wrap_u64]
        unfold sx
        simp only [Nat.reduceMul, Nat.reduceSub, Nat.reducePow] at *
        split <;> omega
      rw [eN]
      clear eN
      go_at_call 19
      refine (puti_spec A (n) c (4 : Nat) (sx 4 U) (l.take (n)) _ HA.out (by omega) (by omega) (sx_bd HW.out HUU.out)).mono ?_
      rintro e w6 ⟨AY, nY, cY, rfl, hOY, hb⟩
      rw [Int.toNat_natCast, putB_ok HW.out (sx_fits HW.out HUU.out), sx_bytes HW.out HUU.out] at hOY
      rw [Int.toNat_natCast, putE_ok HW.out (sx_fits HW.out HUU.out)]
      obtain rfl : n + 4 = nY := by rw [← hOY.1, List.length_append, HLA.out, leBytes_length]
      have HY2 := Lib.hid hOY.is
      have HB := Lib.hid (pure_below HB.out hb)
      have HBB := Lib.hid (HBB.out.pure hb)
      have HX2 := Lib.hid (HX2.out.pure hb)
      clear hb hOY HA
      go_wp2_with fail
      go_at_call 10
      refine (copyb_spec AY _ cY _ _ HY2.out (by omega)).mono ?_
      rintro e w7 ⟨AC, nC, cC2, rfl, hOC, hb⟩
      obtain rfl : n + 4 = nC := by rw [← hOC.1, HY2.out.1]
      have HOC := Lib.hid hOC
      have HB3 := Lib.hid hb
      have HBB3 := Lib.hid (HBB.out.pure hb)
      clear hb hOC
      go_wp2_with (at_builtin; refine wpl_app _ rfl (.tmp 78) (.tmp 79) _ rfl 5 _ 1 1 Try.underlying22 info_b rfl (by omega) bc_len bc_one _ _ _ _ _ rfl HOC.out _ _ _ _ rfl HBB3.out (by omega) HB3.out.size ?_; intro A2 c2 w8 hown1 hfr1 hat1; have HO1 := Lib.hid hown1; have HF1 := Lib.hid hfr1; clear hown1 hfr1 hat1)
      have hb : Below _ _ w8 := below_fr HB3.out HF1.out (by rintro j ⟨ad, h, rfl⟩; exact (HOC.out.addr ad h).2.1)
      have HB := Lib.hid (pure_below HB.out hb)
      have HY2 := Lib.hid (HY2.out.pure hb)
      have HX2 := Lib.hid (HX2.out.pure hb)
      have hcap := HO1.out.cap.1
      clear hb HOC HB3 HBB3 HF1 HBB
      go_at_call 13
      refine (loadi_spec A2 _ c2 (n : Nat) (4 : Nat) _ _ HO1.out.is hcap (by omega)).mono ?_
      rw [back_loadi HW.out HUU.out HLA.out, back_ok HW.out (by omega)]
      rintro e w9 ⟨rfl, hb⟩
      have HB := Lib.hid (pure_below HB.out hb)
      have HY2 := Lib.hid (HY2.out.pure hb)
      have HX2 := Lib.hid (HX2.out.pure hb)
      have ew : IntKind.i64.wrap (((n : Nat) : Int) + ((4 : Nat) : Int)) = (((n : Nat) : Int) + ((4 : Nat) : Int)) := IntWalk.i64_in _ (by omega)
      clear hb HO1 hcap
      go_wp2_with fail
      go_at_call 15
      refine (eqb_spec AX AY _ _ cX cY _ _ _ HX2.out HY2.out).mono ?_
      rw [eqB_self]
      rintro e w' ⟨rfl, rfl⟩
      go_wp2
      go_ret
      exact ⟨rfl, HB.out⟩
  · have h1' : 60 < n := by omega
    clear h1
    by_cases h2 : m ≤ 60
    · have hw : isW ((4 : Nat) : Int) = true := by decide
      have eU : (u : Int) / 4294967296 = ((u / 4294967296 : Nat) : Int) := by simp
      have hU : u / 4294967296 < 2 ^ (8 * 4) := by have := HU.out; simp only [Nat.reduceMul, Nat.reducePow]; omega
      have hb2 : 0 ≤ u / 4294967296 := Nat.zero_le _
      generalize u / 4294967296 = U at eU hU hb2
      try simp only [Int.ediv_one] at eU
      have EU := Shut.mk eU
      have HUU := Shut.mk hU
      have HW := Shut.mk hw
      clear eU hU hw
      have HA := Lib.hid (HA.out.take bc_len (k := 60) (by omega))
      have HBB := Lib.hid (HBB.out.take bc_len (k := m) (by omega))
      go_enter Try.func5, Try.ntmps5
      go_wp2_with fail
      have HK := Lib.hid (Blk.new w 41 #[.slice A n c, .slice B m d])
      have H0 := Lib.hid ((Below.refl w.heap.size w).alloc (Nat.le_refl _) (.cells #[.slice A n c, .slice B m d] 41))
      go_at_call 16
      refine (works_spec _).mono ?_
      rintro e w1 ⟨rfl, hb⟩
      have v0 := ((HK.out.pure hb).cell 0).trans (show _ = some (Value.slice A n c) from rfl)
      have v1 := ((HK.out.pure hb).cell 1).trans (show _ = some (Value.slice B m d) from rfl)
      have HB := Lib.hid (pure_trans H0.out hb)
      clear hb
      go_wp2_with fail
      go_at_call 24
      refine (widen_spec x _).mono ?_
      rw [HX.out]
      rintro e w' ⟨rfl, rfl⟩
      go_wp2_with fail
      rw [EU.out]
      have HA := Lib.hid (HA.out.pure HB.out)
      have HBB := Lib.hid (HBB.out.pure HB.out)
      clear v0 v1
      go_at_call 17
      refine (put_spec A (60) c U (4 : Nat) (l.take (60)) _ HA.out (by omega) (by omega) (u_small HW.out HUU.out)).mono ?_
      rintro e w2 ⟨AX, nX, cX, rfl, hOX, hb⟩
      rw [Int.toNat_natCast, putB_ok HW.out (fitsU_of HUU.out)] at hOX
      rw [Int.toNat_natCast, putE_ok HW.out (fitsU_of HUU.out)]
      have hla := HA.out.1
      obtain rfl : 60 + 4 = nX := by rw [← hOX.1, List.length_append, hla, leBytes_length]
      have HLA := Shut.mk hla
      have HX2 := Lib.hid hOX.is
      have HB := Lib.hid (pure_below HB.out hb)
      have HA := Lib.hid (HA.out.pure hb)
      have HBB := Lib.hid (HBB.out.pure hb)
      clear hb hOX hla
      go_wp2_with fail
      go_at_call 10
      refine (copyb_spec AX _ cX _ _ HX2.out (by omega)).mono ?_
      rintro e w3 ⟨AC, nC, cC, rfl, hOC, hb⟩
      obtain rfl : 60 + 4 = nC := by rw [← hOC.1, HX2.out.1]
      have HOC := Lib.hid hOC
      have HB3 := Lib.hid hb
      have HBB3 := Lib.hid (HBB.out.pure hb)
      clear hb hOC
      go_wp2_with (at_builtin; refine wpl_app _ rfl (.tmp 50) (.tmp 51) _ rfl 5 _ 1 1 Try.underlying22 info_b rfl (by omega) bc_len bc_one _ _ _ _ _ rfl HOC.out _ _ _ _ rfl HBB3.out (by omega) HB3.out.size ?_; intro A1 c1 w4 hown1 hfr1 hat1; have HO1 := Lib.hid hown1; have HF1 := Lib.hid hfr1; clear hown1 hfr1 hat1)
      have hb : Below _ _ w4 := below_fr HB3.out HF1.out (by rintro j ⟨ad, h, rfl⟩; exact (HOC.out.addr ad h).2.1)
      have HB := Lib.hid (pure_below HB.out hb)
      have HA := Lib.hid (HA.out.pure hb)
      have HBB := Lib.hid (HBB.out.pure hb)
      have HX2 := Lib.hid (HX2.out.pure hb)
      have hcap := HO1.out.cap.1
      clear hb HOC HB3 HBB3 HF1
      go_at_call 11
      refine (load_spec A1 _ c1 (60 : Nat) (4 : Nat) _ _ HO1.out.is hcap (by omega)).mono ?_
      rw [back_load HW.out HUU.out HLA.out, back_ok HW.out (by omega)]
      rintro e w5 ⟨rfl, hb⟩
      have HB := Lib.hid (pure_below HB.out hb)
      have HA := Lib.hid (HA.out.pure hb)
      have HBB := Lib.hid (HBB.out.pure hb)
      have HX2 := Lib.hid (HX2.out.pure hb)
      clear hb HO1 hcap
      go_wp2_with fail
      have eN : wrap64 (IntKind.u64.wrap ((U : Int) * 4294967296)) / 4294967296 = sx 4 U := by
        have := HUU.out
        try unfold wrap64
        try simp only [wrap_u64]
        unfold sx
        simp only [Nat.reduceMul, Nat.reduceSub, Nat.reducePow] at *
        split <;> omega
      rw [eN]
      clear eN
      go_at_call 19
      refine (puti_spec A (60) c (4 : Nat) (sx 4 U) (l.take (60)) _ HA.out (by omega) (by omega) (sx_bd HW.out HUU.out)).mono ?_
      rintro e w6 ⟨AY, nY, cY, rfl, hOY, hb⟩
      rw [Int.toNat_natCast, putB_ok HW.out (sx_fits HW.out HUU.out), sx_bytes HW.out HUU.out] at hOY
      rw [Int.toNat_natCast, putE_ok HW.out (sx_fits HW.out HUU.out)]
      obtain rfl : 60 + 4 = nY := by rw [← hOY.1, List.length_append, HLA.out, leBytes_length]
      have HY2 := Lib.hid hOY.is
      have HB := Lib.hid (pure_below HB.out hb)
      have HBB := Lib.hid (HBB.out.pure hb)
      have HX2 := Lib.hid (HX2.out.pure hb)
      clear hb hOY HA
      go_wp2_with fail
      go_at_call 10
      refine (copyb_spec AY _ cY _ _ HY2.out (by omega)).mono ?_
      rintro e w7 ⟨AC, nC, cC2, rfl, hOC, hb⟩
      obtain rfl : 60 + 4 = nC := by rw [← hOC.1, HY2.out.1]
      have HOC := Lib.hid hOC
      have HB3 := Lib.hid hb
      have HBB3 := Lib.hid (HBB.out.pure hb)
      clear hb hOC
      go_wp2_with (at_builtin; refine wpl_app _ rfl (.tmp 78) (.tmp 79) _ rfl 5 _ 1 1 Try.underlying22 info_b rfl (by omega) bc_len bc_one _ _ _ _ _ rfl HOC.out _ _ _ _ rfl HBB3.out (by omega) HB3.out.size ?_; intro A2 c2 w8 hown1 hfr1 hat1; have HO1 := Lib.hid hown1; have HF1 := Lib.hid hfr1; clear hown1 hfr1 hat1)
      have hb : Below _ _ w8 := below_fr HB3.out HF1.out (by rintro j ⟨ad, h, rfl⟩; exact (HOC.out.addr ad h).2.1)
      have HB := Lib.hid (pure_below HB.out hb)
      have HY2 := Lib.hid (HY2.out.pure hb)
      have HX2 := Lib.hid (HX2.out.pure hb)
      have hcap := HO1.out.cap.1
      clear hb HOC HB3 HBB3 HF1 HBB
      go_at_call 13
      refine (loadi_spec A2 _ c2 (60 : Nat) (4 : Nat) _ _ HO1.out.is hcap (by omega)).mono ?_
      rw [back_loadi HW.out HUU.out HLA.out, back_ok HW.out (by omega)]
      rintro e w9 ⟨rfl, hb⟩
      have HB := Lib.hid (pure_below HB.out hb)
      have HY2 := Lib.hid (HY2.out.pure hb)
      have HX2 := Lib.hid (HX2.out.pure hb)
      have ew : IntKind.i64.wrap (((60 : Nat) : Int) + ((4 : Nat) : Int)) = (((60 : Nat) : Int) + ((4 : Nat) : Int)) := IntWalk.i64_in _ (by omega)
      clear hb HO1 hcap
      go_wp2_with fail
      go_at_call 15
      refine (eqb_spec AX AY _ _ cX cY _ _ _ HX2.out HY2.out).mono ?_
      rw [eqB_self]
      rintro e w' ⟨rfl, rfl⟩
      go_wp2
      go_ret
      exact ⟨rfl, HB.out⟩
    · have h2' : 60 < m := by omega
      clear h2
      have hw : isW ((4 : Nat) : Int) = true := by decide
      have eU : (u : Int) / 4294967296 = ((u / 4294967296 : Nat) : Int) := by simp
      have hU : u / 4294967296 < 2 ^ (8 * 4) := by have := HU.out; simp only [Nat.reduceMul, Nat.reducePow]; omega
      have hb2 : 0 ≤ u / 4294967296 := Nat.zero_le _
      generalize u / 4294967296 = U at eU hU hb2
      try simp only [Int.ediv_one] at eU
      have EU := Shut.mk eU
      have HUU := Shut.mk hU
      have HW := Shut.mk hw
      clear eU hU hw
      have HA := Lib.hid (HA.out.take bc_len (k := 60) (by omega))
      have HBB := Lib.hid (HBB.out.take bc_len (k := 60) (by omega))
      go_enter Try.func5, Try.ntmps5
      go_wp2_with fail
      have HK := Lib.hid (Blk.new w 41 #[.slice A n c, .slice B m d])
      have H0 := Lib.hid ((Below.refl w.heap.size w).alloc (Nat.le_refl _) (.cells #[.slice A n c, .slice B m d] 41))
      go_at_call 16
      refine (works_spec _).mono ?_
      rintro e w1 ⟨rfl, hb⟩
      have v0 := ((HK.out.pure hb).cell 0).trans (show _ = some (Value.slice A n c) from rfl)
      have v1 := ((HK.out.pure hb).cell 1).trans (show _ = some (Value.slice B m d) from rfl)
      have HB := Lib.hid (pure_trans H0.out hb)
      clear hb
      go_wp2_with fail
      go_at_call 24
      refine (widen_spec x _).mono ?_
      rw [HX.out]
      rintro e w' ⟨rfl, rfl⟩
      go_wp2_with fail
      rw [EU.out]
      have HA := Lib.hid (HA.out.pure HB.out)
      have HBB := Lib.hid (HBB.out.pure HB.out)
      clear v0 v1
      go_at_call 17
      refine (put_spec A (60) c U (4 : Nat) (l.take (60)) _ HA.out (by omega) (by omega) (u_small HW.out HUU.out)).mono ?_
      rintro e w2 ⟨AX, nX, cX, rfl, hOX, hb⟩
      rw [Int.toNat_natCast, putB_ok HW.out (fitsU_of HUU.out)] at hOX
      rw [Int.toNat_natCast, putE_ok HW.out (fitsU_of HUU.out)]
      have hla := HA.out.1
      obtain rfl : 60 + 4 = nX := by rw [← hOX.1, List.length_append, hla, leBytes_length]
      have HLA := Shut.mk hla
      have HX2 := Lib.hid hOX.is
      have HB := Lib.hid (pure_below HB.out hb)
      have HA := Lib.hid (HA.out.pure hb)
      have HBB := Lib.hid (HBB.out.pure hb)
      clear hb hOX hla
      go_wp2_with fail
      go_at_call 10
      refine (copyb_spec AX _ cX _ _ HX2.out (by omega)).mono ?_
      rintro e w3 ⟨AC, nC, cC, rfl, hOC, hb⟩
      obtain rfl : 60 + 4 = nC := by rw [← hOC.1, HX2.out.1]
      have HOC := Lib.hid hOC
      have HB3 := Lib.hid hb
      have HBB3 := Lib.hid (HBB.out.pure hb)
      clear hb hOC
      go_wp2_with (at_builtin; refine wpl_app _ rfl (.tmp 50) (.tmp 51) _ rfl 5 _ 1 1 Try.underlying22 info_b rfl (by omega) bc_len bc_one _ _ _ _ _ rfl HOC.out _ _ _ _ rfl HBB3.out (by omega) HB3.out.size ?_; intro A1 c1 w4 hown1 hfr1 hat1; have HO1 := Lib.hid hown1; have HF1 := Lib.hid hfr1; clear hown1 hfr1 hat1)
      have hb : Below _ _ w4 := below_fr HB3.out HF1.out (by rintro j ⟨ad, h, rfl⟩; exact (HOC.out.addr ad h).2.1)
      have HB := Lib.hid (pure_below HB.out hb)
      have HA := Lib.hid (HA.out.pure hb)
      have HBB := Lib.hid (HBB.out.pure hb)
      have HX2 := Lib.hid (HX2.out.pure hb)
      have hcap := HO1.out.cap.1
      clear hb HOC HB3 HBB3 HF1
      go_at_call 11
      refine (load_spec A1 _ c1 (60 : Nat) (4 : Nat) _ _ HO1.out.is hcap (by omega)).mono ?_
      rw [back_load HW.out HUU.out HLA.out, back_ok HW.out (by omega)]
      rintro e w5 ⟨rfl, hb⟩
      have HB := Lib.hid (pure_below HB.out hb)
      have HA := Lib.hid (HA.out.pure hb)
      have HBB := Lib.hid (HBB.out.pure hb)
      have HX2 := Lib.hid (HX2.out.pure hb)
      clear hb HO1 hcap
      go_wp2_with fail
      have eN : wrap64 (IntKind.u64.wrap ((U : Int) * 4294967296)) / 4294967296 = sx 4 U := by
        have := HUU.out
        try unfold wrap64
        try simp only [wrap_u64]
        unfold sx
        simp only [Nat.reduceMul, Nat.reduceSub, Nat.reducePow] at *
        split <;> omega
      rw [eN]
      clear eN
      go_at_call 19
      refine (puti_spec A (60) c (4 : Nat) (sx 4 U) (l.take (60)) _ HA.out (by omega) (by omega) (sx_bd HW.out HUU.out)).mono ?_
      rintro e w6 ⟨AY, nY, cY, rfl, hOY, hb⟩
      rw [Int.toNat_natCast, putB_ok HW.out (sx_fits HW.out HUU.out), sx_bytes HW.out HUU.out] at hOY
      rw [Int.toNat_natCast, putE_ok HW.out (sx_fits HW.out HUU.out)]
      obtain rfl : 60 + 4 = nY := by rw [← hOY.1, List.length_append, HLA.out, leBytes_length]
      have HY2 := Lib.hid hOY.is
      have HB := Lib.hid (pure_below HB.out hb)
      have HBB := Lib.hid (HBB.out.pure hb)
      have HX2 := Lib.hid (HX2.out.pure hb)
      clear hb hOY HA
      go_wp2_with fail
      go_at_call 10
      refine (copyb_spec AY _ cY _ _ HY2.out (by omega)).mono ?_
      rintro e w7 ⟨AC, nC, cC2, rfl, hOC, hb⟩
      obtain rfl : 60 + 4 = nC := by rw [← hOC.1, HY2.out.1]
      have HOC := Lib.hid hOC
      have HB3 := Lib.hid hb
      have HBB3 := Lib.hid (HBB.out.pure hb)
      clear hb hOC
      go_wp2_with (at_builtin; refine wpl_app _ rfl (.tmp 78) (.tmp 79) _ rfl 5 _ 1 1 Try.underlying22 info_b rfl (by omega) bc_len bc_one _ _ _ _ _ rfl HOC.out _ _ _ _ rfl HBB3.out (by omega) HB3.out.size ?_; intro A2 c2 w8 hown1 hfr1 hat1; have HO1 := Lib.hid hown1; have HF1 := Lib.hid hfr1; clear hown1 hfr1 hat1)
      have hb : Below _ _ w8 := below_fr HB3.out HF1.out (by rintro j ⟨ad, h, rfl⟩; exact (HOC.out.addr ad h).2.1)
      have HB := Lib.hid (pure_below HB.out hb)
      have HY2 := Lib.hid (HY2.out.pure hb)
      have HX2 := Lib.hid (HX2.out.pure hb)
      have hcap := HO1.out.cap.1
      clear hb HOC HB3 HBB3 HF1 HBB
      go_at_call 13
      refine (loadi_spec A2 _ c2 (60 : Nat) (4 : Nat) _ _ HO1.out.is hcap (by omega)).mono ?_
      rw [back_loadi HW.out HUU.out HLA.out, back_ok HW.out (by omega)]
      rintro e w9 ⟨rfl, hb⟩
      have HB := Lib.hid (pure_below HB.out hb)
      have HY2 := Lib.hid (HY2.out.pure hb)
      have HX2 := Lib.hid (HX2.out.pure hb)
      have ew : IntKind.i64.wrap (((60 : Nat) : Int) + ((4 : Nat) : Int)) = (((60 : Nat) : Int) + ((4 : Nat) : Int)) := IntWalk.i64_in _ (by omega)
      clear hb HO1 hcap
      go_wp2_with fail
      go_at_call 15
      refine (eqb_spec AX AY _ _ cX cY _ _ _ HX2.out HY2.out).mono ?_
      rw [eqB_self]
      rintro e w' ⟨rfl, rfl⟩
      go_wp2
      go_ret
      exact ⟨rfl, HB.out⟩
set_option maxHeartbeats 2000000 in
theorem leback_8 (A B : Option Addr) (n c m d : Nat) (x : Int) (u : Nat) (l k : List UInt8) (w : World) (ha : IsB w A n l) (hb : IsB w B m k) (hc : n ≤ c) (hd : m ≤ d) (hu : (u : Int) < 18446744073709551616) (hx : wd x = 8) :
    Calls Try.prog 5 #[.agg #[.slice A n c, .slice B m d], .int .i64 x, .int .u64 u] w fun e w' => e = .returned (.bool true) ∧ Below w.heap.size w w' := by
  have HU := Shut.mk hu
  have HX := Shut.mk hx
  have HA := Lib.hid ha
  have HBB := Lib.hid hb
  clear hu hx ha hb
  by_cases h1 : n ≤ 60
  · by_cases h2 : m ≤ 60
    · have hw : isW ((8 : Nat) : Int) = true := by decide
      have eU : (u : Int) / 1 = ((u / 1 : Nat) : Int) := by simp
      have hU : u / 1 < 2 ^ (8 * 8) := by have := HU.out; simp only [Nat.reduceMul, Nat.reducePow]; omega
      have hb2 : 0 ≤ u / 1 := Nat.zero_le _
      generalize u / 1 = U at eU hU hb2
      try simp only [Int.ediv_one] at eU
      have EU := Shut.mk eU
      have HUU := Shut.mk hU
      have HW := Shut.mk hw
      clear eU hU hw
      have HA := Lib.hid (HA.out.take bc_len (k := n) (by omega))
      have HBB := Lib.hid (HBB.out.take bc_len (k := m) (by omega))
      go_enter Try.func5, Try.ntmps5
      go_wp2_with fail
      have HK := Lib.hid (Blk.new w 41 #[.slice A n c, .slice B m d])
      have H0 := Lib.hid ((Below.refl w.heap.size w).alloc (Nat.le_refl _) (.cells #[.slice A n c, .slice B m d] 41))
      go_at_call 16
      refine (works_spec _).mono ?_
      rintro e w1 ⟨rfl, hb⟩
      have v0 := ((HK.out.pure hb).cell 0).trans (show _ = some (Value.slice A n c) from rfl)
      have v1 := ((HK.out.pure hb).cell 1).trans (show _ = some (Value.slice B m d) from rfl)
      have HB := Lib.hid (pure_trans H0.out hb)
      clear hb
      go_wp2_with fail
      go_at_call 24
      refine (widen_spec x _).mono ?_
      rw [HX.out]
      rintro e w' ⟨rfl, rfl⟩
      go_wp2_with fail
      rw [EU.out]
      have HA := Lib.hid (HA.out.pure HB.out)
      have HBB := Lib.hid (HBB.out.pure HB.out)
      clear v0 v1
      go_at_call 17
      refine (put_spec A (n) c U (8 : Nat) (l.take (n)) _ HA.out (by omega) (by omega) (u_small HW.out HUU.out)).mono ?_
      rintro e w2 ⟨AX, nX, cX, rfl, hOX, hb⟩
      rw [Int.toNat_natCast, putB_ok HW.out (fitsU_of HUU.out)] at hOX
      rw [Int.toNat_natCast, putE_ok HW.out (fitsU_of HUU.out)]
      have hla := HA.out.1
      obtain rfl : n + 8 = nX := by rw [← hOX.1, List.length_append, hla, leBytes_length]
      have HLA := Shut.mk hla
      have HX2 := Lib.hid hOX.is
      have HB := Lib.hid (pure_below HB.out hb)
      have HA := Lib.hid (HA.out.pure hb)
      have HBB := Lib.hid (HBB.out.pure hb)
      clear hb hOX hla
      go_wp2_with fail
      go_at_call 10
      refine (copyb_spec AX _ cX _ _ HX2.out (by omega)).mono ?_
      rintro e w3 ⟨AC, nC, cC, rfl, hOC, hb⟩
      obtain rfl : n + 8 = nC := by rw [← hOC.1, HX2.out.1]
      have HOC := Lib.hid hOC
      have HB3 := Lib.hid hb
      have HBB3 := Lib.hid (HBB.out.pure hb)
      clear hb hOC
      go_wp2_with (at_builtin; refine wpl_app _ rfl (.tmp 50) (.tmp 51) _ rfl 5 _ 1 1 Try.underlying22 info_b rfl (by omega) bc_len bc_one _ _ _ _ _ rfl HOC.out _ _ _ _ rfl HBB3.out (by omega) HB3.out.size ?_; intro A1 c1 w4 hown1 hfr1 hat1; have HO1 := Lib.hid hown1; have HF1 := Lib.hid hfr1; clear hown1 hfr1 hat1)
      have hb : Below _ _ w4 := below_fr HB3.out HF1.out (by rintro j ⟨ad, h, rfl⟩; exact (HOC.out.addr ad h).2.1)
      have HB := Lib.hid (pure_below HB.out hb)
      have HA := Lib.hid (HA.out.pure hb)
      have HBB := Lib.hid (HBB.out.pure hb)
      have HX2 := Lib.hid (HX2.out.pure hb)
      have hcap := HO1.out.cap.1
      clear hb HOC HB3 HBB3 HF1
      go_at_call 11
      refine (load_spec A1 _ c1 (n : Nat) (8 : Nat) _ _ HO1.out.is hcap (by omega)).mono ?_
      rw [back_load HW.out HUU.out HLA.out, back_ok HW.out (by omega)]
      rintro e w5 ⟨rfl, hb⟩
      have HB := Lib.hid (pure_below HB.out hb)
      have HA := Lib.hid (HA.out.pure hb)
      have HBB := Lib.hid (HBB.out.pure hb)
      have HX2 := Lib.hid (HX2.out.pure hb)
      clear hb HO1 hcap
      go_wp2_with fail
      have eN : wrap64 (IntKind.u64.wrap (U : Int)) = sx 8 U := by
        have := HUU.out
        try unfold wrap64
        try simp only [wrap_u64]
        unfold sx
        simp only [Nat.reduceMul, Nat.reduceSub, Nat.reducePow] at *
        split <;> omega
      rw [eN]
      clear eN
      go_at_call 19
      refine (puti_spec A (n) c (8 : Nat) (sx 8 U) (l.take (n)) _ HA.out (by omega) (by omega) (sx_bd HW.out HUU.out)).mono ?_
      rintro e w6 ⟨AY, nY, cY, rfl, hOY, hb⟩
      rw [Int.toNat_natCast, putB_ok HW.out (sx_fits HW.out HUU.out), sx_bytes HW.out HUU.out] at hOY
      rw [Int.toNat_natCast, putE_ok HW.out (sx_fits HW.out HUU.out)]
      obtain rfl : n + 8 = nY := by rw [← hOY.1, List.length_append, HLA.out, leBytes_length]
      have HY2 := Lib.hid hOY.is
      have HB := Lib.hid (pure_below HB.out hb)
      have HBB := Lib.hid (HBB.out.pure hb)
      have HX2 := Lib.hid (HX2.out.pure hb)
      clear hb hOY HA
      go_wp2_with fail
      go_at_call 10
      refine (copyb_spec AY _ cY _ _ HY2.out (by omega)).mono ?_
      rintro e w7 ⟨AC, nC, cC2, rfl, hOC, hb⟩
      obtain rfl : n + 8 = nC := by rw [← hOC.1, HY2.out.1]
      have HOC := Lib.hid hOC
      have HB3 := Lib.hid hb
      have HBB3 := Lib.hid (HBB.out.pure hb)
      clear hb hOC
      go_wp2_with (at_builtin; refine wpl_app _ rfl (.tmp 78) (.tmp 79) _ rfl 5 _ 1 1 Try.underlying22 info_b rfl (by omega) bc_len bc_one _ _ _ _ _ rfl HOC.out _ _ _ _ rfl HBB3.out (by omega) HB3.out.size ?_; intro A2 c2 w8 hown1 hfr1 hat1; have HO1 := Lib.hid hown1; have HF1 := Lib.hid hfr1; clear hown1 hfr1 hat1)
      have hb : Below _ _ w8 := below_fr HB3.out HF1.out (by rintro j ⟨ad, h, rfl⟩; exact (HOC.out.addr ad h).2.1)
      have HB := Lib.hid (pure_below HB.out hb)
      have HY2 := Lib.hid (HY2.out.pure hb)
      have HX2 := Lib.hid (HX2.out.pure hb)
      have hcap := HO1.out.cap.1
      clear hb HOC HB3 HBB3 HF1 HBB
      go_at_call 13
      refine (loadi_spec A2 _ c2 (n : Nat) (8 : Nat) _ _ HO1.out.is hcap (by omega)).mono ?_
      rw [back_loadi HW.out HUU.out HLA.out, back_ok HW.out (by omega)]
      rintro e w9 ⟨rfl, hb⟩
      have HB := Lib.hid (pure_below HB.out hb)
      have HY2 := Lib.hid (HY2.out.pure hb)
      have HX2 := Lib.hid (HX2.out.pure hb)
      have ew : IntKind.i64.wrap (((n : Nat) : Int) + ((8 : Nat) : Int)) = (((n : Nat) : Int) + ((8 : Nat) : Int)) := IntWalk.i64_in _ (by omega)
      clear hb HO1 hcap
      go_wp2_with fail
      go_at_call 15
      refine (eqb_spec AX AY _ _ cX cY _ _ _ HX2.out HY2.out).mono ?_
      rw [eqB_self]
      rintro e w' ⟨rfl, rfl⟩
      go_wp2
      go_ret
      exact ⟨rfl, HB.out⟩
    · have h2' : 60 < m := by omega
      clear h2
      have hw : isW ((8 : Nat) : Int) = true := by decide
      have eU : (u : Int) / 1 = ((u / 1 : Nat) : Int) := by simp
      have hU : u / 1 < 2 ^ (8 * 8) := by have := HU.out; simp only [Nat.reduceMul, Nat.reducePow]; omega
      have hb2 : 0 ≤ u / 1 := Nat.zero_le _
      generalize u / 1 = U at eU hU hb2
      try simp only [Int.ediv_one] at eU
      have EU := Shut.mk eU
      have HUU := Shut.mk hU
      have HW := Shut.mk hw
      clear eU hU hw
      have HA := Lib.hid (HA.out.take bc_len (k := n) (by omega))
      have HBB := Lib.hid (HBB.out.take bc_len (k := 60) (by omega))
      go_enter Try.func5, Try.ntmps5
      go_wp2_with fail
      have HK := Lib.hid (Blk.new w 41 #[.slice A n c, .slice B m d])
      have H0 := Lib.hid ((Below.refl w.heap.size w).alloc (Nat.le_refl _) (.cells #[.slice A n c, .slice B m d] 41))
      go_at_call 16
      refine (works_spec _).mono ?_
      rintro e w1 ⟨rfl, hb⟩
      have v0 := ((HK.out.pure hb).cell 0).trans (show _ = some (Value.slice A n c) from rfl)
      have v1 := ((HK.out.pure hb).cell 1).trans (show _ = some (Value.slice B m d) from rfl)
      have HB := Lib.hid (pure_trans H0.out hb)
      clear hb
      go_wp2_with fail
      go_at_call 24
      refine (widen_spec x _).mono ?_
      rw [HX.out]
      rintro e w' ⟨rfl, rfl⟩
      go_wp2_with fail
      rw [EU.out]
      have HA := Lib.hid (HA.out.pure HB.out)
      have HBB := Lib.hid (HBB.out.pure HB.out)
      clear v0 v1
      go_at_call 17
      refine (put_spec A (n) c U (8 : Nat) (l.take (n)) _ HA.out (by omega) (by omega) (u_small HW.out HUU.out)).mono ?_
      rintro e w2 ⟨AX, nX, cX, rfl, hOX, hb⟩
      rw [Int.toNat_natCast, putB_ok HW.out (fitsU_of HUU.out)] at hOX
      rw [Int.toNat_natCast, putE_ok HW.out (fitsU_of HUU.out)]
      have hla := HA.out.1
      obtain rfl : n + 8 = nX := by rw [← hOX.1, List.length_append, hla, leBytes_length]
      have HLA := Shut.mk hla
      have HX2 := Lib.hid hOX.is
      have HB := Lib.hid (pure_below HB.out hb)
      have HA := Lib.hid (HA.out.pure hb)
      have HBB := Lib.hid (HBB.out.pure hb)
      clear hb hOX hla
      go_wp2_with fail
      go_at_call 10
      refine (copyb_spec AX _ cX _ _ HX2.out (by omega)).mono ?_
      rintro e w3 ⟨AC, nC, cC, rfl, hOC, hb⟩
      obtain rfl : n + 8 = nC := by rw [← hOC.1, HX2.out.1]
      have HOC := Lib.hid hOC
      have HB3 := Lib.hid hb
      have HBB3 := Lib.hid (HBB.out.pure hb)
      clear hb hOC
      go_wp2_with (at_builtin; refine wpl_app _ rfl (.tmp 50) (.tmp 51) _ rfl 5 _ 1 1 Try.underlying22 info_b rfl (by omega) bc_len bc_one _ _ _ _ _ rfl HOC.out _ _ _ _ rfl HBB3.out (by omega) HB3.out.size ?_; intro A1 c1 w4 hown1 hfr1 hat1; have HO1 := Lib.hid hown1; have HF1 := Lib.hid hfr1; clear hown1 hfr1 hat1)
      have hb : Below _ _ w4 := below_fr HB3.out HF1.out (by rintro j ⟨ad, h, rfl⟩; exact (HOC.out.addr ad h).2.1)
      have HB := Lib.hid (pure_below HB.out hb)
      have HA := Lib.hid (HA.out.pure hb)
      have HBB := Lib.hid (HBB.out.pure hb)
      have HX2 := Lib.hid (HX2.out.pure hb)
      have hcap := HO1.out.cap.1
      clear hb HOC HB3 HBB3 HF1
      go_at_call 11
      refine (load_spec A1 _ c1 (n : Nat) (8 : Nat) _ _ HO1.out.is hcap (by omega)).mono ?_
      rw [back_load HW.out HUU.out HLA.out, back_ok HW.out (by omega)]
      rintro e w5 ⟨rfl, hb⟩
      have HB := Lib.hid (pure_below HB.out hb)
      have HA := Lib.hid (HA.out.pure hb)
      have HBB := Lib.hid (HBB.out.pure hb)
      have HX2 := Lib.hid (HX2.out.pure hb)
      clear hb HO1 hcap
      go_wp2_with fail
      have eN : wrap64 (IntKind.u64.wrap (U : Int)) = sx 8 U := by
        have := HUU.out
        try unfold wrap64
        try simp only [wrap_u64]
        unfold sx
        simp only [Nat.reduceMul, Nat.reduceSub, Nat.reducePow] at *
        split <;> omega
      rw [eN]
      clear eN
      go_at_call 19
      refine (puti_spec A (n) c (8 : Nat) (sx 8 U) (l.take (n)) _ HA.out (by omega) (by omega) (sx_bd HW.out HUU.out)).mono ?_
      rintro e w6 ⟨AY, nY, cY, rfl, hOY, hb⟩
      rw [Int.toNat_natCast, putB_ok HW.out (sx_fits HW.out HUU.out), sx_bytes HW.out HUU.out] at hOY
      rw [Int.toNat_natCast, putE_ok HW.out (sx_fits HW.out HUU.out)]
      obtain rfl : n + 8 = nY := by rw [← hOY.1, List.length_append, HLA.out, leBytes_length]
      have HY2 := Lib.hid hOY.is
      have HB := Lib.hid (pure_below HB.out hb)
      have HBB := Lib.hid (HBB.out.pure hb)
      have HX2 := Lib.hid (HX2.out.pure hb)
      clear hb hOY HA
      go_wp2_with fail
      go_at_call 10
      refine (copyb_spec AY _ cY _ _ HY2.out (by omega)).mono ?_
      rintro e w7 ⟨AC, nC, cC2, rfl, hOC, hb⟩
      obtain rfl : n + 8 = nC := by rw [← hOC.1, HY2.out.1]
      have HOC := Lib.hid hOC
      have HB3 := Lib.hid hb
      have HBB3 := Lib.hid (HBB.out.pure hb)
      clear hb hOC
      go_wp2_with (at_builtin; refine wpl_app _ rfl (.tmp 78) (.tmp 79) _ rfl 5 _ 1 1 Try.underlying22 info_b rfl (by omega) bc_len bc_one _ _ _ _ _ rfl HOC.out _ _ _ _ rfl HBB3.out (by omega) HB3.out.size ?_; intro A2 c2 w8 hown1 hfr1 hat1; have HO1 := Lib.hid hown1; have HF1 := Lib.hid hfr1; clear hown1 hfr1 hat1)
      have hb : Below _ _ w8 := below_fr HB3.out HF1.out (by rintro j ⟨ad, h, rfl⟩; exact (HOC.out.addr ad h).2.1)
      have HB := Lib.hid (pure_below HB.out hb)
      have HY2 := Lib.hid (HY2.out.pure hb)
      have HX2 := Lib.hid (HX2.out.pure hb)
      have hcap := HO1.out.cap.1
      clear hb HOC HB3 HBB3 HF1 HBB
      go_at_call 13
      refine (loadi_spec A2 _ c2 (n : Nat) (8 : Nat) _ _ HO1.out.is hcap (by omega)).mono ?_
      rw [back_loadi HW.out HUU.out HLA.out, back_ok HW.out (by omega)]
      rintro e w9 ⟨rfl, hb⟩
      have HB := Lib.hid (pure_below HB.out hb)
      have HY2 := Lib.hid (HY2.out.pure hb)
      have HX2 := Lib.hid (HX2.out.pure hb)
      have ew : IntKind.i64.wrap (((n : Nat) : Int) + ((8 : Nat) : Int)) = (((n : Nat) : Int) + ((8 : Nat) : Int)) := IntWalk.i64_in _ (by omega)
      clear hb HO1 hcap
      go_wp2_with fail
      go_at_call 15
      refine (eqb_spec AX AY _ _ cX cY _ _ _ HX2.out HY2.out).mono ?_
      rw [eqB_self]
      rintro e w' ⟨rfl, rfl⟩
      go_wp2
      go_ret
      exact ⟨rfl, HB.out⟩
  · have h1' : 60 < n := by omega
    clear h1
    by_cases h2 : m ≤ 60
    · have hw : isW ((8 : Nat) : Int) = true := by decide
      have eU : (u : Int) / 1 = ((u / 1 : Nat) : Int) := by simp
      have hU : u / 1 < 2 ^ (8 * 8) := by have := HU.out; simp only [Nat.reduceMul, Nat.reducePow]; omega
      have hb2 : 0 ≤ u / 1 := Nat.zero_le _
      generalize u / 1 = U at eU hU hb2
      try simp only [Int.ediv_one] at eU
      have EU := Shut.mk eU
      have HUU := Shut.mk hU
      have HW := Shut.mk hw
      clear eU hU hw
      have HA := Lib.hid (HA.out.take bc_len (k := 60) (by omega))
      have HBB := Lib.hid (HBB.out.take bc_len (k := m) (by omega))
      go_enter Try.func5, Try.ntmps5
      go_wp2_with fail
      have HK := Lib.hid (Blk.new w 41 #[.slice A n c, .slice B m d])
      have H0 := Lib.hid ((Below.refl w.heap.size w).alloc (Nat.le_refl _) (.cells #[.slice A n c, .slice B m d] 41))
      go_at_call 16
      refine (works_spec _).mono ?_
      rintro e w1 ⟨rfl, hb⟩
      have v0 := ((HK.out.pure hb).cell 0).trans (show _ = some (Value.slice A n c) from rfl)
      have v1 := ((HK.out.pure hb).cell 1).trans (show _ = some (Value.slice B m d) from rfl)
      have HB := Lib.hid (pure_trans H0.out hb)
      clear hb
      go_wp2_with fail
      go_at_call 24
      refine (widen_spec x _).mono ?_
      rw [HX.out]
      rintro e w' ⟨rfl, rfl⟩
      go_wp2_with fail
      rw [EU.out]
      have HA := Lib.hid (HA.out.pure HB.out)
      have HBB := Lib.hid (HBB.out.pure HB.out)
      clear v0 v1
      go_at_call 17
      refine (put_spec A (60) c U (8 : Nat) (l.take (60)) _ HA.out (by omega) (by omega) (u_small HW.out HUU.out)).mono ?_
      rintro e w2 ⟨AX, nX, cX, rfl, hOX, hb⟩
      rw [Int.toNat_natCast, putB_ok HW.out (fitsU_of HUU.out)] at hOX
      rw [Int.toNat_natCast, putE_ok HW.out (fitsU_of HUU.out)]
      have hla := HA.out.1
      obtain rfl : 60 + 8 = nX := by rw [← hOX.1, List.length_append, hla, leBytes_length]
      have HLA := Shut.mk hla
      have HX2 := Lib.hid hOX.is
      have HB := Lib.hid (pure_below HB.out hb)
      have HA := Lib.hid (HA.out.pure hb)
      have HBB := Lib.hid (HBB.out.pure hb)
      clear hb hOX hla
      go_wp2_with fail
      go_at_call 10
      refine (copyb_spec AX _ cX _ _ HX2.out (by omega)).mono ?_
      rintro e w3 ⟨AC, nC, cC, rfl, hOC, hb⟩
      obtain rfl : 60 + 8 = nC := by rw [← hOC.1, HX2.out.1]
      have HOC := Lib.hid hOC
      have HB3 := Lib.hid hb
      have HBB3 := Lib.hid (HBB.out.pure hb)
      clear hb hOC
      go_wp2_with (at_builtin; refine wpl_app _ rfl (.tmp 50) (.tmp 51) _ rfl 5 _ 1 1 Try.underlying22 info_b rfl (by omega) bc_len bc_one _ _ _ _ _ rfl HOC.out _ _ _ _ rfl HBB3.out (by omega) HB3.out.size ?_; intro A1 c1 w4 hown1 hfr1 hat1; have HO1 := Lib.hid hown1; have HF1 := Lib.hid hfr1; clear hown1 hfr1 hat1)
      have hb : Below _ _ w4 := below_fr HB3.out HF1.out (by rintro j ⟨ad, h, rfl⟩; exact (HOC.out.addr ad h).2.1)
      have HB := Lib.hid (pure_below HB.out hb)
      have HA := Lib.hid (HA.out.pure hb)
      have HBB := Lib.hid (HBB.out.pure hb)
      have HX2 := Lib.hid (HX2.out.pure hb)
      have hcap := HO1.out.cap.1
      clear hb HOC HB3 HBB3 HF1
      go_at_call 11
      refine (load_spec A1 _ c1 (60 : Nat) (8 : Nat) _ _ HO1.out.is hcap (by omega)).mono ?_
      rw [back_load HW.out HUU.out HLA.out, back_ok HW.out (by omega)]
      rintro e w5 ⟨rfl, hb⟩
      have HB := Lib.hid (pure_below HB.out hb)
      have HA := Lib.hid (HA.out.pure hb)
      have HBB := Lib.hid (HBB.out.pure hb)
      have HX2 := Lib.hid (HX2.out.pure hb)
      clear hb HO1 hcap
      go_wp2_with fail
      have eN : wrap64 (IntKind.u64.wrap (U : Int)) = sx 8 U := by
        have := HUU.out
        try unfold wrap64
        try simp only [wrap_u64]
        unfold sx
        simp only [Nat.reduceMul, Nat.reduceSub, Nat.reducePow] at *
        split <;> omega
      rw [eN]
      clear eN
      go_at_call 19
      refine (puti_spec A (60) c (8 : Nat) (sx 8 U) (l.take (60)) _ HA.out (by omega) (by omega) (sx_bd HW.out HUU.out)).mono ?_
      rintro e w6 ⟨AY, nY, cY, rfl, hOY, hb⟩
      rw [Int.toNat_natCast, putB_ok HW.out (sx_fits HW.out HUU.out), sx_bytes HW.out HUU.out] at hOY
      rw [Int.toNat_natCast, putE_ok HW.out (sx_fits HW.out HUU.out)]
      obtain rfl : 60 + 8 = nY := by rw [← hOY.1, List.length_append, HLA.out, leBytes_length]
      have HY2 := Lib.hid hOY.is
      have HB := Lib.hid (pure_below HB.out hb)
      have HBB := Lib.hid (HBB.out.pure hb)
      have HX2 := Lib.hid (HX2.out.pure hb)
      clear hb hOY HA
      go_wp2_with fail
      go_at_call 10
      refine (copyb_spec AY _ cY _ _ HY2.out (by omega)).mono ?_
      rintro e w7 ⟨AC, nC, cC2, rfl, hOC, hb⟩
      obtain rfl : 60 + 8 = nC := by rw [← hOC.1, HY2.out.1]
      have HOC := Lib.hid hOC
      have HB3 := Lib.hid hb
      have HBB3 := Lib.hid (HBB.out.pure hb)
      clear hb hOC
      go_wp2_with (at_builtin; refine wpl_app _ rfl (.tmp 78) (.tmp 79) _ rfl 5 _ 1 1 Try.underlying22 info_b rfl (by omega) bc_len bc_one _ _ _ _ _ rfl HOC.out _ _ _ _ rfl HBB3.out (by omega) HB3.out.size ?_; intro A2 c2 w8 hown1 hfr1 hat1; have HO1 := Lib.hid hown1; have HF1 := Lib.hid hfr1; clear hown1 hfr1 hat1)
      have hb : Below _ _ w8 := below_fr HB3.out HF1.out (by rintro j ⟨ad, h, rfl⟩; exact (HOC.out.addr ad h).2.1)
      have HB := Lib.hid (pure_below HB.out hb)
      have HY2 := Lib.hid (HY2.out.pure hb)
      have HX2 := Lib.hid (HX2.out.pure hb)
      have hcap := HO1.out.cap.1
      clear hb HOC HB3 HBB3 HF1 HBB
      go_at_call 13
      refine (loadi_spec A2 _ c2 (60 : Nat) (8 : Nat) _ _ HO1.out.is hcap (by omega)).mono ?_
      rw [back_loadi HW.out HUU.out HLA.out, back_ok HW.out (by omega)]
      rintro e w9 ⟨rfl, hb⟩
      have HB := Lib.hid (pure_below HB.out hb)
      have HY2 := Lib.hid (HY2.out.pure hb)
      have HX2 := Lib.hid (HX2.out.pure hb)
      have ew : IntKind.i64.wrap (((60 : Nat) : Int) + ((8 : Nat) : Int)) = (((60 : Nat) : Int) + ((8 : Nat) : Int)) := IntWalk.i64_in _ (by omega)
      clear hb HO1 hcap
      go_wp2_with fail
      go_at_call 15
      refine (eqb_spec AX AY _ _ cX cY _ _ _ HX2.out HY2.out).mono ?_
      rw [eqB_self]
      rintro e w' ⟨rfl, rfl⟩
      go_wp2
      go_ret
      exact ⟨rfl, HB.out⟩
    · have h2' : 60 < m := by omega
      clear h2
      have hw : isW ((8 : Nat) : Int) = true := by decide
      have eU : (u : Int) / 1 = ((u / 1 : Nat) : Int) := by simp
      have hU : u / 1 < 2 ^ (8 * 8) := by have := HU.out; simp only [Nat.reduceMul, Nat.reducePow]; omega
      have hb2 : 0 ≤ u / 1 := Nat.zero_le _
      generalize u / 1 = U at eU hU hb2
      try simp only [Int.ediv_one] at eU
      have EU := Shut.mk eU
      have HUU := Shut.mk hU
      have HW := Shut.mk hw
      clear eU hU hw
      have HA := Lib.hid (HA.out.take bc_len (k := 60) (by omega))
      have HBB := Lib.hid (HBB.out.take bc_len (k := 60) (by omega))
      go_enter Try.func5, Try.ntmps5
      go_wp2_with fail
      have HK := Lib.hid (Blk.new w 41 #[.slice A n c, .slice B m d])
      have H0 := Lib.hid ((Below.refl w.heap.size w).alloc (Nat.le_refl _) (.cells #[.slice A n c, .slice B m d] 41))
      go_at_call 16
      refine (works_spec _).mono ?_
      rintro e w1 ⟨rfl, hb⟩
      have v0 := ((HK.out.pure hb).cell 0).trans (show _ = some (Value.slice A n c) from rfl)
      have v1 := ((HK.out.pure hb).cell 1).trans (show _ = some (Value.slice B m d) from rfl)
      have HB := Lib.hid (pure_trans H0.out hb)
      clear hb
      go_wp2_with fail
      go_at_call 24
      refine (widen_spec x _).mono ?_
      rw [HX.out]
      rintro e w' ⟨rfl, rfl⟩
      go_wp2_with fail
      rw [EU.out]
      have HA := Lib.hid (HA.out.pure HB.out)
      have HBB := Lib.hid (HBB.out.pure HB.out)
      clear v0 v1
      go_at_call 17
      refine (put_spec A (60) c U (8 : Nat) (l.take (60)) _ HA.out (by omega) (by omega) (u_small HW.out HUU.out)).mono ?_
      rintro e w2 ⟨AX, nX, cX, rfl, hOX, hb⟩
      rw [Int.toNat_natCast, putB_ok HW.out (fitsU_of HUU.out)] at hOX
      rw [Int.toNat_natCast, putE_ok HW.out (fitsU_of HUU.out)]
      have hla := HA.out.1
      obtain rfl : 60 + 8 = nX := by rw [← hOX.1, List.length_append, hla, leBytes_length]
      have HLA := Shut.mk hla
      have HX2 := Lib.hid hOX.is
      have HB := Lib.hid (pure_below HB.out hb)
      have HA := Lib.hid (HA.out.pure hb)
      have HBB := Lib.hid (HBB.out.pure hb)
      clear hb hOX hla
      go_wp2_with fail
      go_at_call 10
      refine (copyb_spec AX _ cX _ _ HX2.out (by omega)).mono ?_
      rintro e w3 ⟨AC, nC, cC, rfl, hOC, hb⟩
      obtain rfl : 60 + 8 = nC := by rw [← hOC.1, HX2.out.1]
      have HOC := Lib.hid hOC
      have HB3 := Lib.hid hb
      have HBB3 := Lib.hid (HBB.out.pure hb)
      clear hb hOC
      go_wp2_with (at_builtin; refine wpl_app _ rfl (.tmp 50) (.tmp 51) _ rfl 5 _ 1 1 Try.underlying22 info_b rfl (by omega) bc_len bc_one _ _ _ _ _ rfl HOC.out _ _ _ _ rfl HBB3.out (by omega) HB3.out.size ?_; intro A1 c1 w4 hown1 hfr1 hat1; have HO1 := Lib.hid hown1; have HF1 := Lib.hid hfr1; clear hown1 hfr1 hat1)
      have hb : Below _ _ w4 := below_fr HB3.out HF1.out (by rintro j ⟨ad, h, rfl⟩; exact (HOC.out.addr ad h).2.1)
      have HB := Lib.hid (pure_below HB.out hb)
      have HA := Lib.hid (HA.out.pure hb)
      have HBB := Lib.hid (HBB.out.pure hb)
      have HX2 := Lib.hid (HX2.out.pure hb)
      have hcap := HO1.out.cap.1
      clear hb HOC HB3 HBB3 HF1
      go_at_call 11
      refine (load_spec A1 _ c1 (60 : Nat) (8 : Nat) _ _ HO1.out.is hcap (by omega)).mono ?_
      rw [back_load HW.out HUU.out HLA.out, back_ok HW.out (by omega)]
      rintro e w5 ⟨rfl, hb⟩
      have HB := Lib.hid (pure_below HB.out hb)
      have HA := Lib.hid (HA.out.pure hb)
      have HBB := Lib.hid (HBB.out.pure hb)
      have HX2 := Lib.hid (HX2.out.pure hb)
      clear hb HO1 hcap
      go_wp2_with fail
      have eN : wrap64 (IntKind.u64.wrap (U : Int)) = sx 8 U := by
        have := HUU.out
        try unfold wrap64
        try simp only [wrap_u64]
        unfold sx
        simp only [Nat.reduceMul, Nat.reduceSub, Nat.reducePow] at *
        split <;> omega
      rw [eN]
      clear eN
      go_at_call 19
      refine (puti_spec A (60) c (8 : Nat) (sx 8 U) (l.take (60)) _ HA.out (by omega) (by omega) (sx_bd HW.out HUU.out)).mono ?_
      rintro e w6 ⟨AY, nY, cY, rfl, hOY, hb⟩
      rw [Int.toNat_natCast, putB_ok HW.out (sx_fits HW.out HUU.out), sx_bytes HW.out HUU.out] at hOY
      rw [Int.toNat_natCast, putE_ok HW.out (sx_fits HW.out HUU.out)]
      obtain rfl : 60 + 8 = nY := by rw [← hOY.1, List.length_append, HLA.out, leBytes_length]
      have HY2 := Lib.hid hOY.is
      have HB := Lib.hid (pure_below HB.out hb)
      have HBB := Lib.hid (HBB.out.pure hb)
      have HX2 := Lib.hid (HX2.out.pure hb)
      clear hb hOY HA
      go_wp2_with fail
      go_at_call 10
      refine (copyb_spec AY _ cY _ _ HY2.out (by omega)).mono ?_
      rintro e w7 ⟨AC, nC, cC2, rfl, hOC, hb⟩
      obtain rfl : 60 + 8 = nC := by rw [← hOC.1, HY2.out.1]
      have HOC := Lib.hid hOC
      have HB3 := Lib.hid hb
      have HBB3 := Lib.hid (HBB.out.pure hb)
      clear hb hOC
      go_wp2_with (at_builtin; refine wpl_app _ rfl (.tmp 78) (.tmp 79) _ rfl 5 _ 1 1 Try.underlying22 info_b rfl (by omega) bc_len bc_one _ _ _ _ _ rfl HOC.out _ _ _ _ rfl HBB3.out (by omega) HB3.out.size ?_; intro A2 c2 w8 hown1 hfr1 hat1; have HO1 := Lib.hid hown1; have HF1 := Lib.hid hfr1; clear hown1 hfr1 hat1)
      have hb : Below _ _ w8 := below_fr HB3.out HF1.out (by rintro j ⟨ad, h, rfl⟩; exact (HOC.out.addr ad h).2.1)
      have HB := Lib.hid (pure_below HB.out hb)
      have HY2 := Lib.hid (HY2.out.pure hb)
      have HX2 := Lib.hid (HX2.out.pure hb)
      have hcap := HO1.out.cap.1
      clear hb HOC HB3 HBB3 HF1 HBB
      go_at_call 13
      refine (loadi_spec A2 _ c2 (60 : Nat) (8 : Nat) _ _ HO1.out.is hcap (by omega)).mono ?_
      rw [back_loadi HW.out HUU.out HLA.out, back_ok HW.out (by omega)]
      rintro e w9 ⟨rfl, hb⟩
      have HB := Lib.hid (pure_below HB.out hb)
      have HY2 := Lib.hid (HY2.out.pure hb)
      have HX2 := Lib.hid (HX2.out.pure hb)
      have ew : IntKind.i64.wrap (((60 : Nat) : Int) + ((8 : Nat) : Int)) = (((60 : Nat) : Int) + ((8 : Nat) : Int)) := IntWalk.i64_in _ (by omega)
      clear hb HO1 hcap
      go_wp2_with fail
      go_at_call 15
      refine (eqb_spec AX AY _ _ cX cY _ _ _ HX2.out HY2.out).mono ?_
      rw [eqB_self]
      rintro e w' ⟨rfl, rfl⟩
      go_wp2
      go_ret
      exact ⟨rfl, HB.out⟩
theorem leback_spec (A B : Option Addr) (n c m d : Nat) (x : Int) (u : Nat) (l k : List UInt8) (w : World) (ha : IsB w A n l) (hb : IsB w B m k) (hc : n ≤ c) (hd : m ≤ d) (hu : (u : Int) < 18446744073709551616) :
    Calls Try.prog 5 #[.agg #[.slice A n c, .slice B m d], .int .i64 x, .int .u64 u] w fun e w' => e = .returned (.bool true) ∧ Below w.heap.size w w' := by
  rcases w_cases (wd_isW x) with h | h | h | h
  · exact leback_1 A B n c m d x u l k w ha hb hc hd hu h
  · exact leback_2 A B n c m d x u l k w ha hb hc hd hu h
  · exact leback_4 A B n c m d x u l k w ha hb hc hd hu h
  · exact leback_8 A B n c m d x u l k w ha hb hc hd hu h


end Go.Proofs.Ytbgakgljgdiimaa
