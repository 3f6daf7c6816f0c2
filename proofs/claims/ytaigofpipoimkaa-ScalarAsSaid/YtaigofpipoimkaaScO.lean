/-
  Package scalar: the property ScalarAs.
-/
import Derived.Test.YtaigofpipoimkaaScN
import Derived.Test.YtaigofpipoimkaaOwnB
import Derived.Test.YtaigofpipoimkaaRefRow
namespace Go.Proofs.Ytaigofpipoimkaa
open Go.RowKit Go.Acc
theorem wd_as (m : Int) : ∃ W : Nat, (W = 1 ∨ W = 2 ∨ W = 4 ∨ W = 8) ∧ wrap64 (2 ^ (m % 4).toNat) = (W : Int) := by
  have : m % 4 = 0 ∨ m % 4 = 1 ∨ m % 4 = 2 ∨ m % 4 = 3 := by omega
  rcases this with e | e | e | e <;> rw [e]
  · exact ⟨1, by omega, by simp [wrap64]⟩
  · exact ⟨2, by omega, by simp [wrap64]⟩
  · exact ⟨4, by omega, by simp [wrap64]⟩
  · exact ⟨8, by omega, by simp [wrap64]⟩
def asRefs (W : Int) : Array Value := #[.int .i64 0, .int .i64 W, .int .i64 1, .int .i64 1, .int .i64 8, .int .i64 1, .int .i64 6, .int .i64 W, .int .i64 0, .int .i64 W, .int .i64 2, .int .i64 1, .int .i64 8, .int .i64 1, .int .i64 7, .int .i64 W]
set_option maxRecDepth 100000 in
set_option maxHeartbeats 4000000 in
theorem scalaras_spec (m : Int) (u : Nat) (w : World) (hu : (u : Int) < 18446744073709551616) :
    Calls Try.prog 5 #[.int .u64 u, .int .i64 m] w fun e w' => e = .returned (.bool true) ∧ Below w.heap.size w w' := by
  obtain ⟨W, hW, hsh⟩ := wd_as m
  obtain ⟨Z, hZ1, hZ2, hmk⟩ := make_b 16 (by omega)
  replace hmk : ∀ V : World, (Instr.makeSlice 25 (.int .i64 16) (.int .i64 16)).run Try.prog V = .ok (.slice (some ⟨V.heap.size, 0, none⟩) 16 16) (V.alloc (.cells Z 5)) := hmk
  have hO := ownb_lit w Z 16 w.heap.size _ (Nat.le_refl _) (by simp) (by omega) hZ2
  have HO := Lib.hid (show ∃ L, OwnB (w.alloc (.cells Z 5)) w.heap.size (some ⟨w.heap.size, 0, none⟩) 16 16 L from ⟨_, hO⟩)
  have HU := Shut.mk hu
  have hW1 : 1 ≤ W := by omega
  have hW8 : W ≤ 8 := by omega
  have HWI := Lib.hid (show (W : Int) = 1 ∨ (W : Int) = 2 ∨ (W : Int) = 4 ∨ (W : Int) = 8 by omega)
  have HW := Lib.hid hW
  have hu0 : (0 : Int) ≤ u := by omega
  clear hO hZ1 hZ2 hu hW
  go_enter Try.func5, Try.ntmps5
  go_wp2_with fail
  go_at_call 23
  refine (bring_spec m 4 _ (by decide) (by decide)).mono ?_
  rintro e w1 ⟨rfl, rfl⟩
  go_wp2_with fail
  rw [hsh]
  clear hsh hmk
  go_loopw [6] (fun i wr => ∃ k : Nat, k ≤ W ∧ i = .int .i64 k ∧ Below w.heap.size w wr ∧ ∃ L, OwnB wr w.heap.size (some ⟨w.heap.size, 0, none⟩) 16 16 L) (fun i _ => W - (intOf i).toNat)
  case atStart => exact ⟨0, by omega, rfl, (Below.refl _ _).alloc (Nat.le_refl _) _, HO.out⟩
  case round =>
    clear HO
    obtain ⟨k, hk, rfl, hB, L, hO⟩ := hrel
    have HB := Lib.hid hB
    clear hB
    by_cases hlt : k < W
    · obtain ⟨⟨hfz, u0, hcu⟩, hO2⟩ := own_setB hO (i := k) (by omega) (UInt8.ofNat (u / 2 ^ (8 * k)))
      have E1 := Lib.hid (digit_byte u k)
      have HO := Lib.hid hO2
      clear hO hO2
      go_wp2
      rw [E1.out]
      exact ⟨⟨k + 1, by omega, by go_num, HB.out.setCell (Nat.le_refl _) _, _, HO.out⟩, by simp [intOf]; omega⟩
    · obtain rfl : W = k := by omega
      obtain ⟨⟨hfz, u0, hcu⟩, hO2⟩ := own_setB hO (i := 8) (by omega) 8
      have HL := Lib.hid hO2.1
      have H8 := Lib.hid (show (L.take 8 ++ [(8 : UInt8)] ++ L.drop (8 + 1)).getD 8 0 = 8 by
        rw [List.getD_eq_getElem?_getD, List.append_assoc, List.getElem?_append_right (by simp [hO.1])]
        simp [hO.1])
      have HO := Lib.hid hO2.is
      replace HB := Lib.hid (HB.out.setCell (p := ⟨w.heap.size, 8, none⟩) (Nat.le_refl _) (.int .u8 8))
      clear hO hO2
      generalize L.take 8 ++ [(8 : UInt8)] ++ L.drop (8 + 1) = L at HL H8 HO
      have hlW : (W : Int) ≤ 8 := by omega
      go_wp2_with fail
      clear hfz hcu
      go_at_call 24
      refine (of22_spec 0 W 1 1 _).mono ?_
      rintro e wn ⟨rfl, hb⟩
      replace HB := Lib.hid (pure_below HB.out hb); replace HO := Lib.hid (HO.out.pure hb)
      clear hb
      go_wp2_with fail
      go_at_call 24
      refine (of22_spec 8 1 6 W _).mono ?_
      rintro e wn ⟨rfl, hb⟩
      replace HB := Lib.hid (pure_below HB.out hb); replace HO := Lib.hid (HO.out.pure hb)
      clear hb
      go_wp2_with fail
      go_at_call 24
      refine (of22_spec 0 W 2 1 _).mono ?_
      rintro e wn ⟨rfl, hb⟩
      replace HB := Lib.hid (pure_below HB.out hb); replace HO := Lib.hid (HO.out.pure hb)
      clear hb
      go_wp2_with fail
      go_at_call 24
      refine (of22_spec 8 1 7 W _).mono ?_
      rintro e wn ⟨rfl, hb⟩
      replace HB := Lib.hid (pure_below HB.out hb); replace HO := Lib.hid (HO.out.pure hb)
      clear hb
      go_wp2_with fail
      have HQ := Lib.hid (Blk.new wn 23 (asRefs W))
      replace HB := Lib.hid (HB.out.alloc HB.out.size (.cells (asRefs W) 23))
      replace HO := Lib.hid (HO.out.alloc (.cells (asRefs W) 23))
      go_loopw [8] (fun i wr => ∃ j : Int, (j = 0 ∨ j = 2 ∨ j = 4) ∧ i = .int .i64 j ∧ Below w.heap.size w wr ∧ IsB wr (some ⟨w.heap.size, 0, none⟩) 16 L ∧ Blk wr wn.heap.size 23 (asRefs W)) (fun i _ => (4 - intOf i).toNat)
      case atStart => exact ⟨0, by omega, rfl, HB.out, HO.out, HQ.out⟩
      case round =>
        obtain ⟨j, hj, rfl, hB, hO, hQ⟩ := hrel
        clear HB HO HQ
        have HB := Lib.hid hB
        have HO := Lib.hid hO
        have HQ := Lib.hid hQ
        clear hB hO hQ
        rcases hj with rfl | rfl | rfl
        · obtain ⟨x1, hx1⟩ : ∃ x, intV L 0 W 1 1 = x := ⟨_, rfl⟩
          obtain ⟨x2, hx2⟩ : ∃ x, intE L 0 W 1 1 = x := ⟨_, rfl⟩
          obtain ⟨z1, hz1⟩ : ∃ x : Int, (uintV L 0 W 1 1 : Int) = x := ⟨_, rfl⟩
          obtain ⟨z2, hz2⟩ : ∃ x, uintE L 0 W 1 1 = x := ⟨_, rfl⟩
          have hsm := as_same HL.out H8.out HWI.out (t := 1) (t' := 6) (by omega)
          have A1 := Lib.hid hx1
          have A2 := Lib.hid hx2
          have A3 := Lib.hid hz1
          have A4 := Lib.hid hz2
          have B1 := Lib.hid (hsm.1.trans hx1)
          have B2 := Lib.hid (hsm.2.1.trans hx2)
          have B3 := Lib.hid (show (uintV L 8 1 6 W : Int) = z1 by rw [hsm.2.2.1]; exact hz1)
          have B4 := Lib.hid (hsm.2.2.2.trans hz2)
          clear hx1 hx2 hz1 hz2 hsm
          have q0 : _ = some (Value.int .i64 0) := HQ.out.cell 0; have q1 : _ = some (Value.int .i64 W) := HQ.out.cell 1; have q2 : _ = some (Value.int .i64 1) := HQ.out.cell 2; have q3 : _ = some (Value.int .i64 1) := HQ.out.cell 3; have q4 : _ = some (Value.int .i64 8) := HQ.out.cell 4; have q5 : _ = some (Value.int .i64 1) := HQ.out.cell 5; have q6 : _ = some (Value.int .i64 6) := HQ.out.cell 6; have q7 : _ = some (Value.int .i64 W) := HQ.out.cell 7
          go_wp2_with fail
          go_at_call 25
          refine (int_is _ 16 16 0 W 1 1 L x1 x2 _ HO.out (by decide) (by decide) A1.out A2.out).mono ?_
          rintro e wn ⟨rfl, hb⟩
          clear q0 q1 q2 q3 q4 q5 q6 q7
          replace HB := Lib.hid (pure_below HB.out hb); replace HO := Lib.hid (HO.out.pure hb)
          replace HQ := Lib.hid (HQ.out.pure hb)
          clear hb
          have q0 : _ = some (Value.int .i64 0) := HQ.out.cell 0; have q1 : _ = some (Value.int .i64 W) := HQ.out.cell 1; have q2 : _ = some (Value.int .i64 1) := HQ.out.cell 2; have q3 : _ = some (Value.int .i64 1) := HQ.out.cell 3; have q4 : _ = some (Value.int .i64 8) := HQ.out.cell 4; have q5 : _ = some (Value.int .i64 1) := HQ.out.cell 5; have q6 : _ = some (Value.int .i64 6) := HQ.out.cell 6; have q7 : _ = some (Value.int .i64 W) := HQ.out.cell 7
          go_wp2_with fail
          go_at_call 25
          refine (int_is _ 16 16 8 1 6 W L x1 x2 _ HO.out (by decide) (by decide) B1.out B2.out).mono ?_
          rintro e wn ⟨rfl, hb⟩
          clear q0 q1 q2 q3 q4 q5 q6 q7
          replace HB := Lib.hid (pure_below HB.out hb); replace HO := Lib.hid (HO.out.pure hb)
          replace HQ := Lib.hid (HQ.out.pure hb)
          clear hb
          have q0 : _ = some (Value.int .i64 0) := HQ.out.cell 0; have q1 : _ = some (Value.int .i64 W) := HQ.out.cell 1; have q2 : _ = some (Value.int .i64 1) := HQ.out.cell 2; have q3 : _ = some (Value.int .i64 1) := HQ.out.cell 3; have q4 : _ = some (Value.int .i64 8) := HQ.out.cell 4; have q5 : _ = some (Value.int .i64 1) := HQ.out.cell 5; have q6 : _ = some (Value.int .i64 6) := HQ.out.cell 6; have q7 : _ = some (Value.int .i64 W) := HQ.out.cell 7
          go_wp2_with fail
          go_at_call 26
          refine (uint_is _ 16 16 0 W 1 1 L z1 z2 _ HO.out (by decide) (by decide) A3.out A4.out).mono ?_
          rintro e wn ⟨rfl, hb⟩
          clear q0 q1 q2 q3 q4 q5 q6 q7
          replace HB := Lib.hid (pure_below HB.out hb); replace HO := Lib.hid (HO.out.pure hb)
          replace HQ := Lib.hid (HQ.out.pure hb)
          clear hb
          have q0 : _ = some (Value.int .i64 0) := HQ.out.cell 0; have q1 : _ = some (Value.int .i64 W) := HQ.out.cell 1; have q2 : _ = some (Value.int .i64 1) := HQ.out.cell 2; have q3 : _ = some (Value.int .i64 1) := HQ.out.cell 3; have q4 : _ = some (Value.int .i64 8) := HQ.out.cell 4; have q5 : _ = some (Value.int .i64 1) := HQ.out.cell 5; have q6 : _ = some (Value.int .i64 6) := HQ.out.cell 6; have q7 : _ = some (Value.int .i64 W) := HQ.out.cell 7
          go_wp2_with fail
          go_at_call 26
          refine (uint_is _ 16 16 8 1 6 W L z1 z2 _ HO.out (by decide) (by decide) B3.out B4.out).mono ?_
          rintro e wn ⟨rfl, hb⟩
          clear q0 q1 q2 q3 q4 q5 q6 q7
          replace HB := Lib.hid (pure_below HB.out hb); replace HO := Lib.hid (HO.out.pure hb)
          replace HQ := Lib.hid (HQ.out.pure hb)
          clear hb
          go_wp2
          go_roundw
          case rel => exact ⟨2, by omega, rfl, HB.out, HO.out, HQ.out⟩
          case measure => simp [intOf]
        · obtain ⟨x1, hx1⟩ : ∃ x, intV L 0 W 2 1 = x := ⟨_, rfl⟩
          obtain ⟨x2, hx2⟩ : ∃ x, intE L 0 W 2 1 = x := ⟨_, rfl⟩
          obtain ⟨z1, hz1⟩ : ∃ x : Int, (uintV L 0 W 2 1 : Int) = x := ⟨_, rfl⟩
          obtain ⟨z2, hz2⟩ : ∃ x, uintE L 0 W 2 1 = x := ⟨_, rfl⟩
          have hsm := as_same HL.out H8.out HWI.out (t := 2) (t' := 7) (by omega)
          have A1 := Lib.hid hx1
          have A2 := Lib.hid hx2
          have A3 := Lib.hid hz1
          have A4 := Lib.hid hz2
          have B1 := Lib.hid (hsm.1.trans hx1)
          have B2 := Lib.hid (hsm.2.1.trans hx2)
          have B3 := Lib.hid (show (uintV L 8 1 7 W : Int) = z1 by rw [hsm.2.2.1]; exact hz1)
          have B4 := Lib.hid (hsm.2.2.2.trans hz2)
          clear hx1 hx2 hz1 hz2 hsm
          have q8 : _ = some (Value.int .i64 0) := HQ.out.cell 8; have q9 : _ = some (Value.int .i64 W) := HQ.out.cell 9; have q10 : _ = some (Value.int .i64 2) := HQ.out.cell 10; have q11 : _ = some (Value.int .i64 1) := HQ.out.cell 11; have q12 : _ = some (Value.int .i64 8) := HQ.out.cell 12; have q13 : _ = some (Value.int .i64 1) := HQ.out.cell 13; have q14 : _ = some (Value.int .i64 7) := HQ.out.cell 14; have q15 : _ = some (Value.int .i64 W) := HQ.out.cell 15
          go_wp2_with fail
          go_at_call 25
          refine (int_is _ 16 16 0 W 2 1 L x1 x2 _ HO.out (by decide) (by decide) A1.out A2.out).mono ?_
          rintro e wn ⟨rfl, hb⟩
          clear q8 q9 q10 q11 q12 q13 q14 q15
          replace HB := Lib.hid (pure_below HB.out hb); replace HO := Lib.hid (HO.out.pure hb)
          replace HQ := Lib.hid (HQ.out.pure hb)
          clear hb
          have q8 : _ = some (Value.int .i64 0) := HQ.out.cell 8; have q9 : _ = some (Value.int .i64 W) := HQ.out.cell 9; have q10 : _ = some (Value.int .i64 2) := HQ.out.cell 10; have q11 : _ = some (Value.int .i64 1) := HQ.out.cell 11; have q12 : _ = some (Value.int .i64 8) := HQ.out.cell 12; have q13 : _ = some (Value.int .i64 1) := HQ.out.cell 13; have q14 : _ = some (Value.int .i64 7) := HQ.out.cell 14; have q15 : _ = some (Value.int .i64 W) := HQ.out.cell 15
          go_wp2_with fail
          go_at_call 25
          refine (int_is _ 16 16 8 1 7 W L x1 x2 _ HO.out (by decide) (by decide) B1.out B2.out).mono ?_
          rintro e wn ⟨rfl, hb⟩
          clear q8 q9 q10 q11 q12 q13 q14 q15
          replace HB := Lib.hid (pure_below HB.out hb); replace HO := Lib.hid (HO.out.pure hb)
          replace HQ := Lib.hid (HQ.out.pure hb)
          clear hb
          have q8 : _ = some (Value.int .i64 0) := HQ.out.cell 8; have q9 : _ = some (Value.int .i64 W) := HQ.out.cell 9; have q10 : _ = some (Value.int .i64 2) := HQ.out.cell 10; have q11 : _ = some (Value.int .i64 1) := HQ.out.cell 11; have q12 : _ = some (Value.int .i64 8) := HQ.out.cell 12; have q13 : _ = some (Value.int .i64 1) := HQ.out.cell 13; have q14 : _ = some (Value.int .i64 7) := HQ.out.cell 14; have q15 : _ = some (Value.int .i64 W) := HQ.out.cell 15
          go_wp2_with fail
          go_at_call 26
          refine (uint_is _ 16 16 0 W 2 1 L z1 z2 _ HO.out (by decide) (by decide) A3.out A4.out).mono ?_
          rintro e wn ⟨rfl, hb⟩
          clear q8 q9 q10 q11 q12 q13 q14 q15
          replace HB := Lib.hid (pure_below HB.out hb); replace HO := Lib.hid (HO.out.pure hb)
          replace HQ := Lib.hid (HQ.out.pure hb)
          clear hb
          have q8 : _ = some (Value.int .i64 0) := HQ.out.cell 8; have q9 : _ = some (Value.int .i64 W) := HQ.out.cell 9; have q10 : _ = some (Value.int .i64 2) := HQ.out.cell 10; have q11 : _ = some (Value.int .i64 1) := HQ.out.cell 11; have q12 : _ = some (Value.int .i64 8) := HQ.out.cell 12; have q13 : _ = some (Value.int .i64 1) := HQ.out.cell 13; have q14 : _ = some (Value.int .i64 7) := HQ.out.cell 14; have q15 : _ = some (Value.int .i64 W) := HQ.out.cell 15
          go_wp2_with fail
          go_at_call 26
          refine (uint_is _ 16 16 8 1 7 W L z1 z2 _ HO.out (by decide) (by decide) B3.out B4.out).mono ?_
          rintro e wn ⟨rfl, hb⟩
          clear q8 q9 q10 q11 q12 q13 q14 q15
          replace HB := Lib.hid (pure_below HB.out hb); replace HO := Lib.hid (HO.out.pure hb)
          replace HQ := Lib.hid (HQ.out.pure hb)
          clear hb
          go_wp2
          go_roundw
          case rel => exact ⟨4, by omega, rfl, HB.out, HO.out, HQ.out⟩
          case measure => simp [intOf]
        · have q0 : _ = some (Value.int .i64 0) := HQ.out.cell 0; have q1 : _ = some (Value.int .i64 W) := HQ.out.cell 1; have q2 : _ = some (Value.int .i64 1) := HQ.out.cell 2; have q3 : _ = some (Value.int .i64 1) := HQ.out.cell 3; have q4 : _ = some (Value.int .i64 8) := HQ.out.cell 4; have q5 : _ = some (Value.int .i64 1) := HQ.out.cell 5; have q6 : _ = some (Value.int .i64 6) := HQ.out.cell 6; have q7 : _ = some (Value.int .i64 W) := HQ.out.cell 7
          have q8 : _ = some (Value.int .i64 0) := HQ.out.cell 8; have q9 : _ = some (Value.int .i64 W) := HQ.out.cell 9; have q10 : _ = some (Value.int .i64 2) := HQ.out.cell 10; have q11 : _ = some (Value.int .i64 1) := HQ.out.cell 11; have q12 : _ = some (Value.int .i64 8) := HQ.out.cell 12; have q13 : _ = some (Value.int .i64 1) := HQ.out.cell 13; have q14 : _ = some (Value.int .i64 7) := HQ.out.cell 14; have q15 : _ = some (Value.int .i64 W) := HQ.out.cell 15
          rcases HW.out with rfl | rfl | rfl | rfl
          · have hau : uintE L 0 1 2 1 = 0 ∧ ((L.getD (1 - 1) 0).toNat < 128 → uintV L 0 1 1 1 = uintV L 0 1 2 1 ∧ uintE L 0 1 1 1 = 0) ∧ (¬ (L.getD (1 - 1) 0).toNat < 128 → uintE L 0 1 1 1 = 10) := as_uint HL.out (W := 1) (by omega)
            obtain ⟨cc, hcc⟩ : ∃ cc, L.getD 0 0 = cc := ⟨_, rfl⟩
            obtain ⟨g5, off5, e5, hk5, hcell⟩ := isb_at HO.out (k := 0) (by omega)
            injection e5 with e5
            injection e5 with e51 e52
            subst e51 e52
            rw [show L[0] = cc by rw [← hcc, List.getD_eq_getElem?_getD, List.getElem?_eq_getElem hk5]; rfl, Nat.zero_add] at hcell
            rw [show L.getD (1 - 1) 0 = cc from hcc] at hau
            obtain ⟨a1, a2, a3⟩ := hau
            by_cases hlt : cc.toNat < 128
            · obtain ⟨b1, b2⟩ := a2 hlt
              have hd : decide (cc.toNat < 128) = true := decide_eq_true hlt
              have hd2 : decide ((cc.toNat : Int) < 128) = true := decide_eq_true (by omega)
              have hd3 : decide ((128 : Int) ≤ (cc.toNat : Int)) = false := decide_eq_false (by omega)
              obtain ⟨z, hz⟩ : ∃ x : Int, (uintV L 0 1 1 1 : Int) = x := ⟨_, rfl⟩
              have A1 := Lib.hid hz
              have A2 := Lib.hid b2
              have B1 := Lib.hid (show (uintV L 0 1 2 1 : Int) = z by rw [← b1]; exact hz)
              have B2 := Lib.hid a1
              clear hz a1 a2 a3 b1 b2 hcc hk5
              go_wp2_with fail
              go_at_call 26
              refine (uint_is _ 16 16 0 1 1 1 L z 0 _ HO.out (by decide) (by decide) A1.out A2.out).mono ?_
              rintro e wn ⟨rfl, hb⟩
              clear q0 q1 q2 q3 q4 q5 q6 q7
              have hcell := cell_pure hb hcell
              replace q8 := cell_pure hb q8
              replace q9 := cell_pure hb q9
              replace q10 := cell_pure hb q10
              replace q11 := cell_pure hb q11
              replace HB := Lib.hid (pure_below HB.out hb); replace HO := Lib.hid (HO.out.pure hb)
              clear hb q12 q13 q14 q15
              go_wp2_with fail
              go_at_call 26
              refine (uint_is _ 16 16 0 1 2 1 L z 0 _ HO.out (by decide) (by decide) B1.out B2.out).mono ?_
              rintro e wn ⟨rfl, hb⟩
              clear q8 q9 q10 q11
              have hcell := cell_pure hb hcell
              replace HB := Lib.hid (pure_below HB.out hb); replace HO := Lib.hid (HO.out.pure hb)
              clear hb HQ
              go_wp2_with fail
              go_at_call 27
              refine (scworks_spec _).mono ?_
              rintro e w9 ⟨rfl, hb⟩
              replace HB := Lib.hid (pure_below HB.out hb)
              clear hb
              go_wp2
              go_ret
              exact ⟨rfl, HB.out⟩
            · have b2 := a3 hlt
              have hd : decide (cc.toNat < 128) = false := decide_eq_false hlt
              have hd2 : decide ((cc.toNat : Int) < 128) = false := decide_eq_false (by omega)
              have hd3 : decide ((128 : Int) ≤ (cc.toNat : Int)) = true := decide_eq_true (by omega)
              obtain ⟨z, hz⟩ : ∃ x : Int, (uintV L 0 1 1 1 : Int) = x := ⟨_, rfl⟩
              obtain ⟨y, hy⟩ : ∃ x : Int, (uintV L 0 1 2 1 : Int) = x := ⟨_, rfl⟩
              have A1 := Lib.hid hz
              have A2 := Lib.hid b2
              have B1 := Lib.hid hy
              have B2 := Lib.hid a1
              clear hz hy a1 a2 a3 b2 hcc hk5
              go_wp2_with fail
              go_at_call 26
              refine (uint_is _ 16 16 0 1 1 1 L z 10 _ HO.out (by decide) (by decide) A1.out A2.out).mono ?_
              rintro e wn ⟨rfl, hb⟩
              clear q0 q1 q2 q3 q4 q5 q6 q7
              have hcell := cell_pure hb hcell
              replace q8 := cell_pure hb q8
              replace q9 := cell_pure hb q9
              replace q10 := cell_pure hb q10
              replace q11 := cell_pure hb q11
              replace HB := Lib.hid (pure_below HB.out hb); replace HO := Lib.hid (HO.out.pure hb)
              clear hb q12 q13 q14 q15
              go_wp2_with fail
              go_at_call 26
              refine (uint_is _ 16 16 0 1 2 1 L y 0 _ HO.out (by decide) (by decide) B1.out B2.out).mono ?_
              rintro e wn ⟨rfl, hb⟩
              clear q8 q9 q10 q11
              have hcell := cell_pure hb hcell
              replace HB := Lib.hid (pure_below HB.out hb); replace HO := Lib.hid (HO.out.pure hb)
              clear hb HQ
              go_wp2_with fail
              go_at_call 27
              refine (scworks_spec _).mono ?_
              rintro e w9 ⟨rfl, hb⟩
              replace HB := Lib.hid (pure_below HB.out hb)
              clear hb
              go_wp2
              go_ret
              exact ⟨rfl, HB.out⟩
          · have hau : uintE L 0 2 2 1 = 0 ∧ ((L.getD (2 - 1) 0).toNat < 128 → uintV L 0 2 1 1 = uintV L 0 2 2 1 ∧ uintE L 0 2 1 1 = 0) ∧ (¬ (L.getD (2 - 1) 0).toNat < 128 → uintE L 0 2 1 1 = 10) := as_uint HL.out (W := 2) (by omega)
            obtain ⟨cc, hcc⟩ : ∃ cc, L.getD 1 0 = cc := ⟨_, rfl⟩
            obtain ⟨g5, off5, e5, hk5, hcell⟩ := isb_at HO.out (k := 1) (by omega)
            injection e5 with e5
            injection e5 with e51 e52
            subst e51 e52
            rw [show L[1] = cc by rw [← hcc, List.getD_eq_getElem?_getD, List.getElem?_eq_getElem hk5]; rfl, Nat.zero_add] at hcell
            rw [show L.getD (2 - 1) 0 = cc from hcc] at hau
            obtain ⟨a1, a2, a3⟩ := hau
            by_cases hlt : cc.toNat < 128
            · obtain ⟨b1, b2⟩ := a2 hlt
              have hd : decide (cc.toNat < 128) = true := decide_eq_true hlt
              have hd2 : decide ((cc.toNat : Int) < 128) = true := decide_eq_true (by omega)
              have hd3 : decide ((128 : Int) ≤ (cc.toNat : Int)) = false := decide_eq_false (by omega)
              obtain ⟨z, hz⟩ : ∃ x : Int, (uintV L 0 2 1 1 : Int) = x := ⟨_, rfl⟩
              have A1 := Lib.hid hz
              have A2 := Lib.hid b2
              have B1 := Lib.hid (show (uintV L 0 2 2 1 : Int) = z by rw [← b1]; exact hz)
              have B2 := Lib.hid a1
              clear hz a1 a2 a3 b1 b2 hcc hk5
              go_wp2_with fail
              go_at_call 26
              refine (uint_is _ 16 16 0 2 1 1 L z 0 _ HO.out (by decide) (by decide) A1.out A2.out).mono ?_
              rintro e wn ⟨rfl, hb⟩
              clear q0 q1 q2 q3 q4 q5 q6 q7
              have hcell := cell_pure hb hcell
              replace q8 := cell_pure hb q8
              replace q9 := cell_pure hb q9
              replace q10 := cell_pure hb q10
              replace q11 := cell_pure hb q11
              replace HB := Lib.hid (pure_below HB.out hb); replace HO := Lib.hid (HO.out.pure hb)
              clear hb q12 q13 q14 q15
              go_wp2_with fail
              go_at_call 26
              refine (uint_is _ 16 16 0 2 2 1 L z 0 _ HO.out (by decide) (by decide) B1.out B2.out).mono ?_
              rintro e wn ⟨rfl, hb⟩
              clear q8 q9 q10 q11
              have hcell := cell_pure hb hcell
              replace HB := Lib.hid (pure_below HB.out hb); replace HO := Lib.hid (HO.out.pure hb)
              clear hb HQ
              go_wp2_with fail
              go_at_call 27
              refine (scworks_spec _).mono ?_
              rintro e w9 ⟨rfl, hb⟩
              replace HB := Lib.hid (pure_below HB.out hb)
              clear hb
              go_wp2
              go_ret
              exact ⟨rfl, HB.out⟩
            · have b2 := a3 hlt
              have hd : decide (cc.toNat < 128) = false := decide_eq_false hlt
              have hd2 : decide ((cc.toNat : Int) < 128) = false := decide_eq_false (by omega)
              have hd3 : decide ((128 : Int) ≤ (cc.toNat : Int)) = true := decide_eq_true (by omega)
              obtain ⟨z, hz⟩ : ∃ x : Int, (uintV L 0 2 1 1 : Int) = x := ⟨_, rfl⟩
              obtain ⟨y, hy⟩ : ∃ x : Int, (uintV L 0 2 2 1 : Int) = x := ⟨_, rfl⟩
              have A1 := Lib.hid hz
              have A2 := Lib.hid b2
              have B1 := Lib.hid hy
              have B2 := Lib.hid a1
              clear hz hy a1 a2 a3 b2 hcc hk5
              go_wp2_with fail
              go_at_call 26
              refine (uint_is _ 16 16 0 2 1 1 L z 10 _ HO.out (by decide) (by decide) A1.out A2.out).mono ?_
              rintro e wn ⟨rfl, hb⟩
              clear q0 q1 q2 q3 q4 q5 q6 q7
              have hcell := cell_pure hb hcell
              replace q8 := cell_pure hb q8
              replace q9 := cell_pure hb q9
              replace q10 := cell_pure hb q10
              replace q11 := cell_pure hb q11
              replace HB := Lib.hid (pure_below HB.out hb); replace HO := Lib.hid (HO.out.pure hb)
              clear hb q12 q13 q14 q15
              go_wp2_with fail
              go_at_call 26
              refine (uint_is _ 16 16 0 2 2 1 L y 0 _ HO.out (by decide) (by decide) B1.out B2.out).mono ?_
              rintro e wn ⟨rfl, hb⟩
              clear q8 q9 q10 q11
              have hcell := cell_pure hb hcell
              replace HB := Lib.hid (pure_below HB.out hb); replace HO := Lib.hid (HO.out.pure hb)
              clear hb HQ
              go_wp2_with fail
              go_at_call 27
              refine (scworks_spec _).mono ?_
              rintro e w9 ⟨rfl, hb⟩
              replace HB := Lib.hid (pure_below HB.out hb)
              clear hb
              go_wp2
              go_ret
              exact ⟨rfl, HB.out⟩
          · have hau : uintE L 0 4 2 1 = 0 ∧ ((L.getD (4 - 1) 0).toNat < 128 → uintV L 0 4 1 1 = uintV L 0 4 2 1 ∧ uintE L 0 4 1 1 = 0) ∧ (¬ (L.getD (4 - 1) 0).toNat < 128 → uintE L 0 4 1 1 = 10) := as_uint HL.out (W := 4) (by omega)
            obtain ⟨cc, hcc⟩ : ∃ cc, L.getD 3 0 = cc := ⟨_, rfl⟩
            obtain ⟨g5, off5, e5, hk5, hcell⟩ := isb_at HO.out (k := 3) (by omega)
            injection e5 with e5
            injection e5 with e51 e52
            subst e51 e52
            rw [show L[3] = cc by rw [← hcc, List.getD_eq_getElem?_getD, List.getElem?_eq_getElem hk5]; rfl, Nat.zero_add] at hcell
            rw [show L.getD (4 - 1) 0 = cc from hcc] at hau
            obtain ⟨a1, a2, a3⟩ := hau
            by_cases hlt : cc.toNat < 128
            · obtain ⟨b1, b2⟩ := a2 hlt
              have hd : decide (cc.toNat < 128) = true := decide_eq_true hlt
              have hd2 : decide ((cc.toNat : Int) < 128) = true := decide_eq_true (by omega)
              have hd3 : decide ((128 : Int) ≤ (cc.toNat : Int)) = false := decide_eq_false (by omega)
              obtain ⟨z, hz⟩ : ∃ x : Int, (uintV L 0 4 1 1 : Int) = x := ⟨_, rfl⟩
              have A1 := Lib.hid hz
              have A2 := Lib.hid b2
              have B1 := Lib.hid (show (uintV L 0 4 2 1 : Int) = z by rw [← b1]; exact hz)
              have B2 := Lib.hid a1
              clear hz a1 a2 a3 b1 b2 hcc hk5
              go_wp2_with fail
              go_at_call 26
              refine (uint_is _ 16 16 0 4 1 1 L z 0 _ HO.out (by decide) (by decide) A1.out A2.out).mono ?_
              rintro e wn ⟨rfl, hb⟩
              clear q0 q1 q2 q3 q4 q5 q6 q7
              have hcell := cell_pure hb hcell
              replace q8 := cell_pure hb q8
              replace q9 := cell_pure hb q9
              replace q10 := cell_pure hb q10
              replace q11 := cell_pure hb q11
              replace HB := Lib.hid (pure_below HB.out hb); replace HO := Lib.hid (HO.out.pure hb)
              clear hb q12 q13 q14 q15
              go_wp2_with fail
              go_at_call 26
              refine (uint_is _ 16 16 0 4 2 1 L z 0 _ HO.out (by decide) (by decide) B1.out B2.out).mono ?_
              rintro e wn ⟨rfl, hb⟩
              clear q8 q9 q10 q11
              have hcell := cell_pure hb hcell
              replace HB := Lib.hid (pure_below HB.out hb); replace HO := Lib.hid (HO.out.pure hb)
              clear hb HQ
              go_wp2_with fail
              go_at_call 27
              refine (scworks_spec _).mono ?_
              rintro e w9 ⟨rfl, hb⟩
              replace HB := Lib.hid (pure_below HB.out hb)
              clear hb
              go_wp2
              go_ret
              exact ⟨rfl, HB.out⟩
            · have b2 := a3 hlt
              have hd : decide (cc.toNat < 128) = false := decide_eq_false hlt
              have hd2 : decide ((cc.toNat : Int) < 128) = false := decide_eq_false (by omega)
              have hd3 : decide ((128 : Int) ≤ (cc.toNat : Int)) = true := decide_eq_true (by omega)
              obtain ⟨z, hz⟩ : ∃ x : Int, (uintV L 0 4 1 1 : Int) = x := ⟨_, rfl⟩
              obtain ⟨y, hy⟩ : ∃ x : Int, (uintV L 0 4 2 1 : Int) = x := ⟨_, rfl⟩
              have A1 := Lib.hid hz
              have A2 := Lib.hid b2
              have B1 := Lib.hid hy
              have B2 := Lib.hid a1
              clear hz hy a1 a2 a3 b2 hcc hk5
              go_wp2_with fail
              go_at_call 26
              refine (uint_is _ 16 16 0 4 1 1 L z 10 _ HO.out (by decide) (by decide) A1.out A2.out).mono ?_
              rintro e wn ⟨rfl, hb⟩
              clear q0 q1 q2 q3 q4 q5 q6 q7
              have hcell := cell_pure hb hcell
              replace q8 := cell_pure hb q8
              replace q9 := cell_pure hb q9
              replace q10 := cell_pure hb q10
              replace q11 := cell_pure hb q11
              replace HB := Lib.hid (pure_below HB.out hb); replace HO := Lib.hid (HO.out.pure hb)
              clear hb q12 q13 q14 q15
              go_wp2_with fail
              go_at_call 26
              refine (uint_is _ 16 16 0 4 2 1 L y 0 _ HO.out (by decide) (by decide) B1.out B2.out).mono ?_
              rintro e wn ⟨rfl, hb⟩
              clear q8 q9 q10 q11
              have hcell := cell_pure hb hcell
              replace HB := Lib.hid (pure_below HB.out hb); replace HO := Lib.hid (HO.out.pure hb)
              clear hb HQ
              go_wp2_with fail
              go_at_call 27
              refine (scworks_spec _).mono ?_
              rintro e w9 ⟨rfl, hb⟩
              replace HB := Lib.hid (pure_below HB.out hb)
              clear hb
              go_wp2
              go_ret
              exact ⟨rfl, HB.out⟩
          · have hau : uintE L 0 8 2 1 = 0 ∧ ((L.getD (8 - 1) 0).toNat < 128 → uintV L 0 8 1 1 = uintV L 0 8 2 1 ∧ uintE L 0 8 1 1 = 0) ∧ (¬ (L.getD (8 - 1) 0).toNat < 128 → uintE L 0 8 1 1 = 10) := as_uint HL.out (W := 8) (by omega)
            obtain ⟨cc, hcc⟩ : ∃ cc, L.getD 7 0 = cc := ⟨_, rfl⟩
            obtain ⟨g5, off5, e5, hk5, hcell⟩ := isb_at HO.out (k := 7) (by omega)
            injection e5 with e5
            injection e5 with e51 e52
            subst e51 e52
            rw [show L[7] = cc by rw [← hcc, List.getD_eq_getElem?_getD, List.getElem?_eq_getElem hk5]; rfl, Nat.zero_add] at hcell
            rw [show L.getD (8 - 1) 0 = cc from hcc] at hau
            obtain ⟨a1, a2, a3⟩ := hau
            by_cases hlt : cc.toNat < 128
            · obtain ⟨b1, b2⟩ := a2 hlt
              have hd : decide (cc.toNat < 128) = true := decide_eq_true hlt
              have hd2 : decide ((cc.toNat : Int) < 128) = true := decide_eq_true (by omega)
              have hd3 : decide ((128 : Int) ≤ (cc.toNat : Int)) = false := decide_eq_false (by omega)
              obtain ⟨z, hz⟩ : ∃ x : Int, (uintV L 0 8 1 1 : Int) = x := ⟨_, rfl⟩
              have A1 := Lib.hid hz
              have A2 := Lib.hid b2
              have B1 := Lib.hid (show (uintV L 0 8 2 1 : Int) = z by rw [← b1]; exact hz)
              have B2 := Lib.hid a1
              clear hz a1 a2 a3 b1 b2 hcc hk5
              go_wp2_with fail
              go_at_call 26
              refine (uint_is _ 16 16 0 8 1 1 L z 0 _ HO.out (by decide) (by decide) A1.out A2.out).mono ?_
              rintro e wn ⟨rfl, hb⟩
              clear q0 q1 q2 q3 q4 q5 q6 q7
              have hcell := cell_pure hb hcell
              replace q8 := cell_pure hb q8
              replace q9 := cell_pure hb q9
              replace q10 := cell_pure hb q10
              replace q11 := cell_pure hb q11
              replace HB := Lib.hid (pure_below HB.out hb); replace HO := Lib.hid (HO.out.pure hb)
              clear hb q12 q13 q14 q15
              go_wp2_with fail
              go_at_call 26
              refine (uint_is _ 16 16 0 8 2 1 L z 0 _ HO.out (by decide) (by decide) B1.out B2.out).mono ?_
              rintro e wn ⟨rfl, hb⟩
              clear q8 q9 q10 q11
              have hcell := cell_pure hb hcell
              replace HB := Lib.hid (pure_below HB.out hb); replace HO := Lib.hid (HO.out.pure hb)
              clear hb HQ
              go_wp2_with fail
              go_at_call 27
              refine (scworks_spec _).mono ?_
              rintro e w9 ⟨rfl, hb⟩
              replace HB := Lib.hid (pure_below HB.out hb)
              clear hb
              go_wp2
              go_ret
              exact ⟨rfl, HB.out⟩
            · have b2 := a3 hlt
              have hd : decide (cc.toNat < 128) = false := decide_eq_false hlt
              have hd2 : decide ((cc.toNat : Int) < 128) = false := decide_eq_false (by omega)
              have hd3 : decide ((128 : Int) ≤ (cc.toNat : Int)) = true := decide_eq_true (by omega)
              obtain ⟨z, hz⟩ : ∃ x : Int, (uintV L 0 8 1 1 : Int) = x := ⟨_, rfl⟩
              obtain ⟨y, hy⟩ : ∃ x : Int, (uintV L 0 8 2 1 : Int) = x := ⟨_, rfl⟩
              have A1 := Lib.hid hz
              have A2 := Lib.hid b2
              have B1 := Lib.hid hy
              have B2 := Lib.hid a1
              clear hz hy a1 a2 a3 b2 hcc hk5
              go_wp2_with fail
              go_at_call 26
              refine (uint_is _ 16 16 0 8 1 1 L z 10 _ HO.out (by decide) (by decide) A1.out A2.out).mono ?_
              rintro e wn ⟨rfl, hb⟩
              clear q0 q1 q2 q3 q4 q5 q6 q7
              have hcell := cell_pure hb hcell
              replace q8 := cell_pure hb q8
              replace q9 := cell_pure hb q9
              replace q10 := cell_pure hb q10
              replace q11 := cell_pure hb q11
              replace HB := Lib.hid (pure_below HB.out hb); replace HO := Lib.hid (HO.out.pure hb)
              clear hb q12 q13 q14 q15
              go_wp2_with fail
              go_at_call 26
              refine (uint_is _ 16 16 0 8 2 1 L y 0 _ HO.out (by decide) (by decide) B1.out B2.out).mono ?_
              rintro e wn ⟨rfl, hb⟩
              clear q8 q9 q10 q11
              have hcell := cell_pure hb hcell
              replace HB := Lib.hid (pure_below HB.out hb); replace HO := Lib.hid (HO.out.pure hb)
              clear hb HQ
              go_wp2_with fail
              go_at_call 27
              refine (scworks_spec _).mono ?_
              rintro e w9 ⟨rfl, hb⟩
              replace HB := Lib.hid (pure_below HB.out hb)
              clear hb
              go_wp2
              go_ret
              exact ⟨rfl, HB.out⟩

open Go.ChangeShapes Go.WideShapes Go.ChangeAt
set_option maxRecDepth 100000 in
theorem scalarAs_run {H : Type} {enc : TypeId × Value → H} {v0 v1 : Value} {d0 d1 : DataW H} {p0 p1 : List MemPlace} (W : World) (base : Nat) (k0 : Value.okWide Try.prog W .any base 39 v0) (k1 : Value.okWide Try.prog W .any base 3 v1)
    (h0 : DataW.Trod enc Try.prog W 0 (fun _ => true) true 39 v0 d0 p0) (h1 : DataW.Trod enc Try.prog W 0 (fun _ => true) true 3 v1 d1 p1) :
    Calls Try.prog 5 #[v0, v1] W fun e w' => e = .returned (.bool true) ∧ Below W.heap.size W w' := by
  obtain ⟨u, rfl, hu⟩ := u64_arg k0 h0
  obtain ⟨m, rfl, _⟩ := int_arg k1 h1
  exact scalaras_spec m u W hu

set_option maxRecDepth 100000 in
theorem scalarAs_lifted (os : Os) (started : os.Started) (H : Type) (enc : TypeId × Value → H) :
    ReturnsInHanded {} Try.checked os 5 .any (Rows.scalarAsSpec.pre6 enc Try.prog Try.f5 Rows.scalarAsRow.domain false) (Rows.scalarAsSpec.post enc Try.prog Try.f5 false true false false) := by
  refine returnsInHanded_of_change (C := Try.checked) acc_own started (by kernel_rfl) Try.func5
    (ChangeSpec.witness6 (enc := enc) (C := Try.checked) false ⟨#[], #[.int .u64 0, .int .i64 0], []⟩ 8 (by kernel_rfl) (by kernel_rfl) (by kernel_rfl) (by kernel_rfl)) ?_
  intro W base args ds gs before hval0 hW hcnd _
  have hval : ∀ (j : Nat) t v, Try.f5.params[j]? = some t → args[j]? = some v → Value.okWide Try.prog W .any base t v := hval0
  have hW' := hW
  obtain ⟨p, q, hA0, hV, rfl, hfz, hnd⟩ := hW
  have hA : DataW.TrodAll enc Try.prog W 0 (fun _ => true) true Try.f5.params.toList args.toList ds p := hA0
  rw [Try.params5] at hA
  rw [Try.params5] at hval
  obtain ⟨v0, vs0, d0, ds0, p0, q0, hargs, rfl, rfl, h0, r0⟩ := trodAll_cons hA
  obtain ⟨v1, vs1, d1, ds1, p1, q1, rfl, rfl, rfl, h1, r1⟩ := trodAll_cons r0
  obtain ⟨rfl, rfl, rfl⟩ := trodAll_nil r1
  obtain rfl : args = #[v0, v1] := by cases args; simp_all
  obtain ⟨rfl, rfl⟩ := trodVars_none hV
  have k0 := hval 0 39 v0 rfl rfl
  have k1 := hval 1 3 v1 rfl rfl
  clear hA0 hval0
  refine (scalarAs_run (enc := enc) W base k0 k1 h0 h1).mono fun e W' ⟨he, bel⟩ => ?_
  subst he
  exact ⟨_, rfl, _, _, _, [], _, [], hW', trodAll_mk1 (shut_bool Try.underlying4 _), (trodAll_cons_mk (below_arg acc_laidOut (by kernel_rfl) (of_decide_eq_true (by kernel_rfl)) h0 bel) (trodAll_cons_mk (below_arg acc_laidOut (by kernel_rfl) (of_decide_eq_true (by kernel_rfl)) h1 bel) trodAll_mk0)), rfl, bel.frame _, fun h => by cases h⟩

theorem scalarAs_holds : Rows.ScalarAsSaid :=
  OpenClaim.holds_of_wide 5 Try.f5 rfl rfl rfl rfl rfl rfl rfl ⟨rfl, rfl, rfl, rfl, rfl⟩ rfl rfl rfl rfl rfl (by kernel_rfl) Try.func5 (by kernel_rfl)
    (of_decide_eq_true (by kernel_rfl)) (by unfold Func.isWrapper; rw [if_neg (of_decide_eq_false (by kernel_rfl))]; exact ⟨rfl, rfl⟩)
    (fun os started H enc _ => scalarAs_lifted os started H enc)
#print axioms scalarAs_holds
end Go.Proofs.Ytaigofpipoimkaa
