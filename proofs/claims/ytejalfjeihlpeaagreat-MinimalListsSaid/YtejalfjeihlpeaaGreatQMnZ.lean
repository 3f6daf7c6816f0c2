/-
  Package accordionlaw30: list writes the document of a vector of unsigned numbers.
-/
import Derived.Test.YtejalfjeihlpeaaGreatQMnY
namespace Go.Proofs.YtejalfjeihlpeaaGreat
open Go.RowKit Go.Acc
def VecOut (W : Nat) (ls : List Nat) (w : World) (e : Ending) (w' : World) : Prop :=
  ∃ A' k c' fi, e = .returned (.tuple #[.slice A' k c', .bool fi]) ∧ Below w.heap.size w w' ∧ (fi = true → ∃ D : VecD, D.Ok ∧ D.w = W ∧ D.ls = ls ∧ OwnB w' w.heap.size A' k c' D.doc)
def Vec1 (W n : Nat) (ls : List Nat) (w : World) (b f i : Value) (wr : World) : Prop :=
  ∃ (k : Nat) (A2 : Option Addr) (k2 c2 : Nat) (m : List UInt8) (fi : Bool), k ≤ n ∧ b = .slice A2 k2 c2 ∧ f = .bool fi ∧ i = .int .i64 k ∧ OwnB wr w.heap.size A2 k2 c2 m ∧ k2 ≤ 8 + 8 * k ∧ VecR W ls k fi m ∧ Below w.heap.size w wr
def Vec2 (n : Nat) (typed : Bool) (T : UInt8) (m0 : List UInt8) (w : World) (b kd i : Value) (wr : World) : Prop :=
  ∃ (k : Nat) (A2 : Option Addr) (k2 c2 : Nat), k ≤ n ∧ b = .slice A2 k2 c2 ∧ kd = .int .i64 (if k = 0 then 12 else 10) ∧ i = .int .i64 k ∧ OwnB wr w.heap.size A2 k2 c2 (m0 ++ List.replicate k T) ∧ (typed = true → k = 0) ∧ Below w.heap.size w wr
def Vec3 (m1 : List UInt8) (V : Nat) (w : World) (b : Value) (wr : World) : Prop :=
  ∃ (A2 : Option Addr) (k2 c2 j : Nat), b = .slice A2 k2 c2 ∧ OwnB wr w.heap.size A2 k2 c2 (m1 ++ List.replicate j 0) ∧ j ≤ 1 ∧ (j = 1 → V = 2 ∧ k2 % 2 = 0) ∧ Below w.heap.size w wr
theorem isb_two {w : World} {g : Nat} {a b : Int} {x y : UInt8} (hg : w.heap.size = g) (ha : a = (x.toNat : Int)) (hb : b = (y.toNat : Int)) : IsB (w.alloc (.cells #[.int .u8 a, .int .u8 b] 5)) (some ⟨g, 0, none⟩) 2 [x, y] := by
  subst ha hb hg
  refine ⟨rfl, fun j u hj => ⟨_, _, rfl, ?_⟩⟩
  rw [(Blk.new w 5 _).cell, Nat.zero_add, ← Array.getElem?_toList]
  exact hj
/-- The whole document. -/
theorem vec_whole {W V n K j C k5 U : Nat} {ls : List Nat} {kd : Int} {T TG : UInt8} {m : List UInt8} {fi : Bool} (hW : isW (W : Int) = true) (hV : V = 1 ∨ V = 2) (hls : ls.length = n) (hn : n ≤ 100) (hC : C ≤ 3) (hWC : W = 2 ^ C)
    (hR : VecR W ls n fi m) (hk : (K = 0 ∧ kd = 12 ∧ TG.toNat = 48 + C) ∨ (K = n ∧ kd = 10 ∧ TG.toNat = 40 + C)) (hT : T.toNat = 8 + C) (hj : j ≤ 1) (hk5 : (m ++ List.replicate K T ++ List.replicate j 0).length = k5) (hm : k5 % V = 0)
    (hU : fi = true → W ≤ k5 → U = k5 - W) (h2 : V = 2 → 255 + W < k5) (hf : (fi && (putE V (fitsU V U) == 0)) = true) :
    ∃ D : VecD, D.Ok ∧ D.w = W ∧ D.ls = ls ∧ putB (m ++ List.replicate K T ++ List.replicate j 0) V U (fitsU V U) ++ [TG, UInt8.ofNat V] = D.doc := by
  obtain ⟨f1, f2⟩ := Bool.and_eq_true_iff.1 hf
  obtain ⟨g1, g2⟩ := hR f1
  have hVW : isW (V : Int) = true := by rcases hV with rfl | rfl <;> decide
  have htk : ls.take n = ls := List.take_of_length_le (by omega)
  rw [htk] at g2
  have hlen : k5 = W + (n * W + K + j) := by
    rw [← hk5, List.length_append, List.length_append, List.length_replicate, List.length_replicate, g1, vecB_len (by omega)]
    omega
  have hUU : U = n * W + K + j := by
    rw [hU f1 (by omega), hlen]
    omega
  cases hfu : fitsU V U with
  | false =>
    rw [hfu, putE_no0 hVW] at f2
    cases f2
  | true =>
    rw [hUU] at hfu
    obtain ⟨ok, hoff⟩ := vec_ok (W := W) (V := V) (n := n) (K := K) (j := j) (C := C) (ls := ls) (kd := kd) (T := T) (TG := TG) hW hV hls hn g2 hC hWC hk hT hj (by rw [← hlen]; exact hm) hfu (fun e => by have := h2 e; omega)
    refine ⟨_, ok, rfl, rfl, ?_⟩
    rw [putB_ok hVW rfl, g1]
    unfold VecD.doc VecD.body
    rw [hoff, hUU]
    simp only [vecB, htk, List.append_assoc]
def slen : Value → Nat
  | .slice _ n _ => n
  | _ => 0
set_option maxRecDepth 100000 in
set_option maxHeartbeats 2000000 in
theorem vlist_spec (A : Option Addr) (n c W : Nat) (ls : List Nat) (typed : Bool) (w : World) (h : IsU w A n ls) (hn : n ≤ 100) (hW : isW (W : Int) = true) (hub : ∀ u ∈ ls, ((u : Nat) : Int) < 18446744073709551616) :
    Calls Tryz.prog 18 #[.slice A n c, .int .i64 W, .bool typed] w (VecOut W ls w) := by
  have hls : ls.length = n := h.1
  have HI0 := Lib.hid h
  have HW := Lib.hid hW
  have HUB := Lib.hid hub
  have HLS := Lib.hid hls
  have hw8 : 1 ≤ W ∧ W ≤ 8 := by have := isW_iff.1 hW; omega
  obtain ⟨C, hC, hC0, hC3, hWC⟩ := code_of hW
  have hfi : fitsU W n = true := by
    unfold fitsU
    refine decide_eq_true (.inr ?_)
    have h1 : 2 ^ 8 ≤ 2 ^ (8 * W) := Nat.pow_le_pow_right (by decide) (by omega)
    omega
  have hw2 : IntKind.u64.wrap (n : Int) = n := by rw [IntKind.wrap_u64]; omega
  have e1 : putE W (fitsU W n) = 0 := by rw [hfi]; exact putE_ok hW rfl
  have e2 : putB [] W n (fitsU (W : Int).toNat n) = leBytes W n := by rw [Int.toNat_natCast, hfi, putB_ok hW rfl, List.nil_append]
  have HC := Lib.hid hC
  have HC0 := Lib.hid hC0
  have HWC := Lib.hid hWC
  have E2 := Lib.hid e2
  have E1 := Lib.hid e1
  clear h hW hub hls hC hC0 hWC hfi e1 e2
  go_enter Tryz.func18, Tryz.ntmps18
  go_wp2_with fail
  go_at_call 20
  refine (put_spec none 0 0 n W [] _ (Is.nil _ _) (by omega) (by omega) (by omega)).mono ?_
  rintro e w1 ⟨A1, n1, c1, rfl, hO, hb⟩
  rw [E2.out] at hO
  rw [Int.toNat_natCast, E1.out]
  obtain rfl : W = n1 := by rw [← hO.1, leBytes_length]
  have HO := Lib.hid hO
  have HB := Lib.hid hb
  clear hO hb hw2 E1 E2
  go_wp2_with fail
  go_at_call 19
  refine (code_spec W _).mono ?_
  rw [HC.out, HC0.out]
  rintro e w2 ⟨rfl, rfl⟩
  go_wp2_with fail
  go_loopw [8, 10, 13] (fun b f i wr => Vec1 W n ls w b f i wr) (fun _ _ i _ => n - (intOf i).toNat)
  case atStart =>
    refine ⟨0, A1, W, c1, _, true, Nat.zero_le _, rfl, rfl, rfl, HO.out, by omega, fun _ => ⟨?_, fun u hu => by cases hu⟩, HB.out⟩
    unfold vecB
    rw [HLS.out]
    simp
  case round =>
    clear HO HB
    obtain ⟨k, A2, k2, c2, m, fi, hk, rfl, rfl, rfl, hO2, hk2, hR, hb⟩ := hrel
    have HO2 := Lib.hid hO2
    have HB := Lib.hid hb
    have HR := Lib.hid hR
    clear hO2 hR
    by_cases hkn : k < n
    · obtain ⟨b1, o1, ea, hk', hcell⟩ := isu_at (HI0.out.pure hb) hkn
      subst ea
      have hul := HUB.out ls[k] (List.getElem_mem hk')
      have hstep := vecR_step HW.out HR.out hk' hul
      have hpl := putB_le (l := m) (W := W) (u := ls[k]) (b := fitsU W ls[k]) HW.out
      obtain ⟨u, hu⟩ : ∃ u, ls[k] = u := ⟨_, rfl⟩
      rw [hu] at hstep hcell hul hpl
      obtain ⟨er, her⟩ : ∃ x, putE W (fitsU W u) = x := ⟨_, rfl⟩
      obtain ⟨m3, hm3⟩ : ∃ x, putB m W u (fitsU W u) = x := ⟨_, rfl⟩
      rw [her, hm3] at hstep
      rw [hm3, HO2.out.1] at hpl
      have HER := Lib.hid her
      have HM3 := Lib.hid hm3
      have HS := Lib.hid hstep
      have HUL := Lib.hid hul
      have hk0 : (0 : Int) ≤ k := by omega
      have hkI : (k : Int) < n := by omega
      have hwk : IntKind.i64.wrap ((k : Int) + 1) = (k : Int) + 1 := IntWalk.i64_in _ (by omega)
      clear hstep hul her hm3 hu hb
      go_wp2_with fail
      go_at_call 20
      refine (put_spec A2 k2 c2 u W m _ HO2.out.is HO2.out.cap.1 (by omega) HUL.out).mono ?_
      rintro e w3 ⟨A3, n3, c3, rfl, hO3, hb3⟩
      rw [Int.toNat_natCast, HM3.out] at hO3
      rw [Int.toNat_natCast, HER.out]
      have HO3 := Lib.hid (Own.rebase (B' := w.heap.size) hO3 HB.out.size)
      have hn3 : n3 ≤ k2 + 8 := by rw [← hO3.1]; exact hpl
      replace HB := Lib.hid (pure_below HB.out hb3)
      clear hO3 hb3 hcell
      cases fi with
      | true =>
        go_wp2_with fail
        go_roundw
        case rel => exact ⟨k + 1, A3, n3, c3, m3, _, hkn, rfl, rfl, by go_num, HO3.out, by omega, by have := HS.out; rw [Bool.true_and] at this; exact this, HB.out⟩
        case measure => simp [intOf]; omega
      | false =>
        go_wp2_with fail
        go_roundw
        case rel => exact ⟨k + 1, A3, n3, c3, m3, _, hkn, rfl, rfl, by go_num, HO3.out, by omega, by have := HS.out; rw [Bool.false_and] at this; exact this, HB.out⟩
        case measure => simp [intOf]; omega
    · have hkk : k = n := by omega
      subst hkk
      have hd : decide (k < k) = false := by simp
      obtain ⟨T, hT⟩ : ∃ T : UInt8, T.toNat = 8 + C := ⟨UInt8.ofNat (8 + C), by rw [UInt8.toNat_ofNat']; omega⟩
      have HT := Lib.hid hT
      have HML := Lib.hid HO2.out.1
      clear hT hkn hb
      go_wp2_with fail
      clear hd
      go_loopw [8, 16, 17] (fun b kd i wr => Vec2 k typed T m w b kd i wr) (fun _ _ i _ => k - (intOf i).toNat)
      case atStart => exact ⟨0, A2, k2, c2, Nat.zero_le _, rfl, rfl, rfl, by simpa using HO2.out, fun _ => rfl, HB.out⟩
      case round =>
        clear HO2 HB
        obtain ⟨K, A4, k4, c4, hK, rfl, rfl, rfl, hO4, ht4, hb4⟩ := hrel
        have HO4 := Lib.hid hO4
        have HB := Lib.hid hb4
        have HT4 := Lib.hid ht4
        have hk4 : k4 = k2 + K := by rw [← hO4.1, List.length_append, List.length_replicate, HML.out]
        have hk5 : k4 ≤ 1000 := by omega
        have HK4 := Lib.hid hk4
        clear hO4 hb4 ht4 hk4
        have hcase : (typed = false ∧ K < k) ∨ (K = 0 ∨ K = k) ∧ (decide (K < k) = false ∨ typed = true) := by
          by_cases hKk : K < k
          · cases htp : typed with
            | true => exact .inr ⟨.inl (HT4.out htp), .inr rfl⟩
            | false => exact .inl ⟨rfl, hKk⟩
          · exact .inr ⟨.inr (by omega), .inl (decide_eq_false hKk)⟩
        have HCS := Lib.hid hcase
        clear hcase
        rcases HCS.out with ⟨htf, hKk⟩ | ⟨hKK, hex⟩
        · subst htf
          have hw8c : IntKind.i64.wrap (8 + (C : Int)) = 8 + C := IntWalk.i64_in _ (by omega)
          have hu8 : IntKind.u8.wrap (8 + (C : Int)) = 8 + C := by rw [IntKind.wrap_u8]; omega
          have hwk : IntKind.i64.wrap ((K : Int) + 1) = (K : Int) + 1 := IntWalk.i64_in _ (by omega)
          clear HCS
          go_wp2_with (at_builtin; refine wpl_app _ rfl (.tmp 73) (.tmp 77) _ rfl 5 _ 1 1 Tryz.underlying22 info_b rfl (by omega) bc_len bc_one _ _ _ _ _ rfl (HO4.out.pure ((Below.refl _ _).alloc (Nat.le_refl _) _)) _ _ _ _ rfl (isb_new _ _ T (by rw [HT.out]; omega)) (by omega) (by have := HB.out.size; simp; omega) ?_; intro A5 c5 w5 hown hfr hat; have HO5 := Lib.hid hown; replace HB := Lib.hid (below_fr (HB.out.alloc HB.out.size _) hfr (by rintro j ⟨ad, e, rfl⟩; exact (HO4.out.addr ad e).2.1)); clear hown hfr hat)
          go_roundw
          case rel =>
            refine ⟨K + 1, A5, k4 + 1, c5, hKk, rfl, by rw [if_neg (Nat.succ_ne_zero K)], by go_num, ?_, fun h => (by cases h), HB.out⟩
            have := HO5.out
            rw [List.append_assoc, show [T] = List.replicate 1 T from rfl, List.replicate_append_replicate] at this
            exact this
          case measure => simp [intOf]; omega
        · obtain ⟨kd, hkd⟩ : ∃ x : Int, (if K = 0 then (12 : Int) else 10) = x := ⟨_, rfl⟩
          have hkd2 : (K = 0 ∧ kd = 12) ∨ (K = k ∧ kd = 10) := by
            by_cases h0 : K = 0
            · rw [if_pos h0] at hkd
              exact .inl ⟨h0, hkd.symm⟩
            · rw [if_neg h0] at hkd
              exact .inr ⟨hKK.resolve_left h0, hkd.symm⟩
          rw [hkd]
          have HKD := Lib.hid hkd2
          have HEX := Lib.hid hex
          clear hkd hkd2 hKK hex HCS HT4 hK
          rcases HEX.out with hex | hex
          · go_upto_if 83 with fail
            clear hex
            go_cut [18] from 21 to 117 (fun u18 wx => ∃ wy, wy = wx ∧ ∃ V : Nat, u18 = .int .i64 V ∧ (V = 1 ∨ V = 2) ∧ (V = 2 → 255 + W < k4) ∧ wx = wr)
            case first =>
              have hws : IntKind.i64.wrap ((k4 : Int) - W) = (k4 : Int) - W := IntWalk.i64_in _ (by omega)
              by_cases hbig : (255 : Int) < (k4 : Int) - W
              · have hd : decide ((255 : Int) < (k4 : Int) - W) = true := decide_eq_true hbig
                go_wp2_with fail
                go_meet
                exact ⟨_, rfl, 2, rfl, .inr rfl, fun _ => by omega, rfl⟩
              · have hd : decide ((255 : Int) < (k4 : Int) - W) = false := decide_eq_false hbig
                go_wp2_with fail
                go_meet
                exact ⟨_, rfl, 1, rfl, .inl rfl, fun h => by omega, rfl⟩
            case rest =>
            obtain ⟨w8, rfl, V, rfl, hV, hV2, rfl⟩ := hcut
            have HV := Lib.hid hV
            have HV2 := Lib.hid hV2
            clear hV2
            go_wp2_with fail
            go_loopw [8] (fun b wr => Vec3 (m ++ List.replicate K T) V w b wr) (fun b _ => slen b % V)
            case atStart => exact ⟨A4, k4, c4, 0, rfl, by simpa using HO4.out, by omega, fun h => absurd h (by decide), HB.out⟩
            case round =>
              clear HO4 HB
              obtain ⟨A5, k5, c5, j, rfl, hO5, hj, hj2, hb5⟩ := hrel
              have HO5 := Lib.hid hO5
              have HB := Lib.hid hb5
              have hk6 : k5 = k4 + j := by
                have h1 := HK4.out
                rw [← hO5.1, List.length_append, List.length_append, List.length_replicate, List.length_replicate, HML.out, h1]
              have hk7 : k5 ≤ 1001 := by omega
              have HK6 := Lib.hid hk6
              have HJ := Lib.hid hj2
              clear hO5 hb5 hk6 hj2
              by_cases hr : k5 % V = 0
              · have hmod : ((k5 : Int) % (V : Int) != 0) = false := by
                  have : (k5 : Int) % (V : Int) = ((k5 % V : Nat) : Int) := by simp
                  rw [this, hr]
                  rfl
                have HRM := Lib.hid hr
                clear hr
                have hkd3 : 0 ≤ kd ∧ kd ≤ 12 := by have := HKD.out; omega
                obtain ⟨TG, htg⟩ : ∃ TG : UInt8, (TG.toNat : Int) = 4 * kd + C := ⟨UInt8.ofNat (4 * kd + C).toNat, by rw [UInt8.toNat_ofNat']; omega⟩
                have hvn : ((UInt8.ofNat V).toNat : Int) = V := by rw [UInt8.toNat_ofNat']; omega
                obtain ⟨U, hU, hU64⟩ : ∃ U : Nat, IntKind.u64.wrap ((k5 : Int) - W) = U ∧ (U : Int) < 18446744073709551616 := by
                  rw [IntKind.wrap_u64]
                  exact ⟨(((k5 : Int) - W) % 18446744073709551616).toNat, by omega, by omega⟩
                have HU := Lib.hid (show W ≤ k5 → U = k5 - W from by rw [IntKind.wrap_u64] at hU; omega)
                have hws : IntKind.i64.wrap ((k5 : Int) - W) = (k5 : Int) - W := IntWalk.i64_in _ (by omega)
                have hs4 : IntKind.i64.wrap (4 * kd) = 4 * kd := IntWalk.i64_in _ (by omega)
                have hs5 : IntKind.i64.wrap (4 * kd + (C : Int)) = 4 * kd + C := IntWalk.i64_in _ (by omega)
                have hs6 : IntKind.u8.wrap (4 * kd + (C : Int)) = 4 * kd + C := by rw [IntKind.wrap_u8]; omega
                have hs7 : IntKind.u8.wrap (V : Int) = V := by rw [IntKind.wrap_u8]; omega
                obtain ⟨er, her⟩ : ∃ x, putE V (fitsU V U) = x := ⟨_, rfl⟩
                have HER := Lib.hid her
                have HTG := Lib.hid htg
                have HVN := Lib.hid hvn
                have HU64 := Lib.hid hU64
                have hpl := putB_le (l := m ++ List.replicate K T ++ List.replicate j 0) (W := V) (u := U) (b := fitsU V U) (by rcases hV with rfl | rfl <;> decide)
                rw [HO5.out.1] at hpl
                clear her htg hvn hU64
                go_wp2_with fail
                go_at_call 20
                refine (put_spec A5 k5 c5 U V _ _ HO5.out.is HO5.out.cap.1 (by omega) HU64.out).mono ?_
                rintro e w6 ⟨A6, n6, c6, rfl, hO6, hb6⟩
                rw [Int.toNat_natCast] at hO6
                rw [Int.toNat_natCast, HER.out]
                have HO6 := Lib.hid hO6
                have hn6 : n6 ≤ 1010 := by rw [← hO6.1]; omega
                have HB6 := Lib.hid hb6.size
                have HWR := Lib.hid HB.out.size
                replace HB := Lib.hid (pure_below HB.out hb6)
                clear hO6 hb6 hU hws HU64
                cases fi with
                | false =>
                  go_wp2_with (at_builtin; refine wpl_app _ rfl (.tmp 103) (.tmp 111) _ rfl 5 _ 1 1 Tryz.underlying22 info_b rfl (by omega) bc_len bc_one _ _ _ _ _ rfl (HO6.out.pure ((Below.refl _ _).alloc (Nat.le_refl _) _)) _ _ _ _ rfl (isb_two rfl HTG.out.symm HVN.out.symm) (by omega) (by have := HB6.out; simp; omega) ?_; intro A7 c7 w7 hown hfr hat; have HO7 := Lib.hid (Own.rebase (B' := w.heap.size) hown HWR.out); replace HB := Lib.hid (below_fr (HB.out.alloc HB.out.size _) hfr (by rintro i ⟨ad, e, rfl⟩; exact Nat.le_trans HWR.out (HO6.out.addr ad e).2.1)); clear hown hfr hat)
                  go_wp2_with fail
                  go_ret2
                  exact ⟨_, _, _, false, rfl, HB.out, fun h => by cases h⟩
                | true =>
                  go_wp2_with (at_builtin; refine wpl_app _ rfl (.tmp 103) (.tmp 111) _ rfl 5 _ 1 1 Tryz.underlying22 info_b rfl (by omega) bc_len bc_one _ _ _ _ _ rfl (HO6.out.pure ((Below.refl _ _).alloc (Nat.le_refl _) _)) _ _ _ _ rfl (isb_two rfl HTG.out.symm HVN.out.symm) (by omega) (by have := HB6.out; simp; omega) ?_; intro A7 c7 w7 hown hfr hat; have HO7 := Lib.hid (Own.rebase (B' := w.heap.size) hown HWR.out); replace HB := Lib.hid (below_fr (HB.out.alloc HB.out.size _) hfr (by rintro i ⟨ad, e, rfl⟩; exact Nat.le_trans HWR.out (HO6.out.addr ad e).2.1)); clear hown hfr hat)
                  go_wp2_with fail
                  go_ret2
                  refine ⟨_, _, _, _, rfl, HB.out, fun hf => ?_⟩
                  have hfin : (true && (putE V (fitsU V U) == 0)) = true := by rw [HER.out, Bool.true_and]; exact hf
                  obtain ⟨D, g1, g2, g3, g4⟩ := vec_whole (kd := kd) (TG := TG) HW.out HV.out HLS.out hn hC3 HWC.out HR.out (by have h1 := HKD.out; have h2 := HTG.out; omega) HT.out hj HO5.out.1 HRM.out (fun _ => HU.out) (fun e => by have h1 := HV2.out e; have h2 := HK6.out; omega) hfin
                  refine ⟨D, g1, g2, g3, ?_⟩
                  rw [← g4]
                  exact HO7.out
              · have hmod : ((k5 : Int) % (V : Int) != 0) = true := by
                  have : (k5 : Int) % (V : Int) = ((k5 % V : Nat) : Int) := by simp
                  rw [this]
                  simpa using (show ((k5 % V : Nat) : Int) ≠ 0 by omega)
                have hv2 : V = 2 ∧ j = 0 := by
                  have h1 := HJ.out
                  rcases hV with rfl | rfl
                  · omega
                  · refine ⟨rfl, ?_⟩
                    have : j = 0 ∨ j = 1 := by omega
                    rcases this with h | h
                    · exact h
                    · exact absurd (h1 h).2 hr
                obtain ⟨rfl, rfl⟩ := hv2
                have HMD := Lib.hid hr
                clear hr
                go_wp2_with (at_builtin; refine wpl_app _ rfl (.tmp 89) (.tmp 90) _ rfl 5 _ 1 1 Tryz.underlying22 info_b rfl (by omega) bc_len bc_one _ _ _ _ _ rfl (HO5.out.pure ((Below.refl _ _).alloc (Nat.le_refl _) _)) _ _ _ _ rfl (isb_new _ _ (0 : UInt8) rfl) (by omega) (by have := HB.out.size; simp; omega) ?_; intro A7 c7 w7 hown hfr hat; have HO7 := Lib.hid hown; replace HB := Lib.hid (below_fr (HB.out.alloc HB.out.size _) hfr (by rintro i ⟨ad, e, rfl⟩; exact (HO5.out.addr ad e).2.1)); clear hown hfr hat)
                go_roundw
                case rel =>
                  refine ⟨A7, k5 + 1, c7, 1, rfl, ?_, Nat.le_refl _, fun _ => ⟨rfl, by have := HMD.out; omega⟩, HB.out⟩
                  have := HO7.out
                  simpa using this
                case measure =>
                  have := HMD.out
                  simp only [slen]
                  simp
                  omega
          · subst hex
            by_cases hKk : K < k
            · have hex : decide (K < k) = true := decide_eq_true hKk
              clear hKk
              go_upto_if 83 with fail
              clear hex
              go_cut [18] from 21 to 117 (fun u18 wx => ∃ wy, wy = wx ∧ ∃ V : Nat, u18 = .int .i64 V ∧ (V = 1 ∨ V = 2) ∧ (V = 2 → 255 + W < k4) ∧ wx = wr)
              case first =>
                have hws : IntKind.i64.wrap ((k4 : Int) - W) = (k4 : Int) - W := IntWalk.i64_in _ (by omega)
                by_cases hbig : (255 : Int) < (k4 : Int) - W
                · have hd : decide ((255 : Int) < (k4 : Int) - W) = true := decide_eq_true hbig
                  go_wp2_with fail
                  go_meet
                  exact ⟨_, rfl, 2, rfl, .inr rfl, fun _ => by omega, rfl⟩
                · have hd : decide ((255 : Int) < (k4 : Int) - W) = false := decide_eq_false hbig
                  go_wp2_with fail
                  go_meet
                  exact ⟨_, rfl, 1, rfl, .inl rfl, fun h => by omega, rfl⟩
              case rest =>
              obtain ⟨w8, rfl, V, rfl, hV, hV2, rfl⟩ := hcut
              have HV := Lib.hid hV
              have HV2 := Lib.hid hV2
              clear hV2
              go_wp2_with fail
              go_loopw [8] (fun b wr => Vec3 (m ++ List.replicate K T) V w b wr) (fun b _ => slen b % V)
              case atStart => exact ⟨A4, k4, c4, 0, rfl, by simpa using HO4.out, by omega, fun h => absurd h (by decide), HB.out⟩
              case round =>
                clear HO4 HB
                obtain ⟨A5, k5, c5, j, rfl, hO5, hj, hj2, hb5⟩ := hrel
                have HO5 := Lib.hid hO5
                have HB := Lib.hid hb5
                have hk6 : k5 = k4 + j := by
                  have h1 := HK4.out
                  rw [← hO5.1, List.length_append, List.length_append, List.length_replicate, List.length_replicate, HML.out, h1]
                have hk7 : k5 ≤ 1001 := by omega
                have HK6 := Lib.hid hk6
                have HJ := Lib.hid hj2
                clear hO5 hb5 hk6 hj2
                by_cases hr : k5 % V = 0
                · have hmod : ((k5 : Int) % (V : Int) != 0) = false := by
                    have : (k5 : Int) % (V : Int) = ((k5 % V : Nat) : Int) := by simp
                    rw [this, hr]
                    rfl
                  have HRM := Lib.hid hr
                  clear hr
                  have hkd3 : 0 ≤ kd ∧ kd ≤ 12 := by have := HKD.out; omega
                  obtain ⟨TG, htg⟩ : ∃ TG : UInt8, (TG.toNat : Int) = 4 * kd + C := ⟨UInt8.ofNat (4 * kd + C).toNat, by rw [UInt8.toNat_ofNat']; omega⟩
                  have hvn : ((UInt8.ofNat V).toNat : Int) = V := by rw [UInt8.toNat_ofNat']; omega
                  obtain ⟨U, hU, hU64⟩ : ∃ U : Nat, IntKind.u64.wrap ((k5 : Int) - W) = U ∧ (U : Int) < 18446744073709551616 := by
                    rw [IntKind.wrap_u64]
                    exact ⟨(((k5 : Int) - W) % 18446744073709551616).toNat, by omega, by omega⟩
                  have HU := Lib.hid (show W ≤ k5 → U = k5 - W from by rw [IntKind.wrap_u64] at hU; omega)
                  have hws : IntKind.i64.wrap ((k5 : Int) - W) = (k5 : Int) - W := IntWalk.i64_in _ (by omega)
                  have hs4 : IntKind.i64.wrap (4 * kd) = 4 * kd := IntWalk.i64_in _ (by omega)
                  have hs5 : IntKind.i64.wrap (4 * kd + (C : Int)) = 4 * kd + C := IntWalk.i64_in _ (by omega)
                  have hs6 : IntKind.u8.wrap (4 * kd + (C : Int)) = 4 * kd + C := by rw [IntKind.wrap_u8]; omega
                  have hs7 : IntKind.u8.wrap (V : Int) = V := by rw [IntKind.wrap_u8]; omega
                  obtain ⟨er, her⟩ : ∃ x, putE V (fitsU V U) = x := ⟨_, rfl⟩
                  have HER := Lib.hid her
                  have HTG := Lib.hid htg
                  have HVN := Lib.hid hvn
                  have HU64 := Lib.hid hU64
                  have hpl := putB_le (l := m ++ List.replicate K T ++ List.replicate j 0) (W := V) (u := U) (b := fitsU V U) (by rcases hV with rfl | rfl <;> decide)
                  rw [HO5.out.1] at hpl
                  clear her htg hvn hU64
                  go_wp2_with fail
                  go_at_call 20
                  refine (put_spec A5 k5 c5 U V _ _ HO5.out.is HO5.out.cap.1 (by omega) HU64.out).mono ?_
                  rintro e w6 ⟨A6, n6, c6, rfl, hO6, hb6⟩
                  rw [Int.toNat_natCast] at hO6
                  rw [Int.toNat_natCast, HER.out]
                  have HO6 := Lib.hid hO6
                  have hn6 : n6 ≤ 1010 := by rw [← hO6.1]; omega
                  have HB6 := Lib.hid hb6.size
                  have HWR := Lib.hid HB.out.size
                  replace HB := Lib.hid (pure_below HB.out hb6)
                  clear hO6 hb6 hU hws HU64
                  cases fi with
                  | false =>
                    go_wp2_with (at_builtin; refine wpl_app _ rfl (.tmp 103) (.tmp 111) _ rfl 5 _ 1 1 Tryz.underlying22 info_b rfl (by omega) bc_len bc_one _ _ _ _ _ rfl (HO6.out.pure ((Below.refl _ _).alloc (Nat.le_refl _) _)) _ _ _ _ rfl (isb_two rfl HTG.out.symm HVN.out.symm) (by omega) (by have := HB6.out; simp; omega) ?_; intro A7 c7 w7 hown hfr hat; have HO7 := Lib.hid (Own.rebase (B' := w.heap.size) hown HWR.out); replace HB := Lib.hid (below_fr (HB.out.alloc HB.out.size _) hfr (by rintro i ⟨ad, e, rfl⟩; exact Nat.le_trans HWR.out (HO6.out.addr ad e).2.1)); clear hown hfr hat)
                    go_wp2_with fail
                    go_ret2
                    exact ⟨_, _, _, false, rfl, HB.out, fun h => by cases h⟩
                  | true =>
                    go_wp2_with (at_builtin; refine wpl_app _ rfl (.tmp 103) (.tmp 111) _ rfl 5 _ 1 1 Tryz.underlying22 info_b rfl (by omega) bc_len bc_one _ _ _ _ _ rfl (HO6.out.pure ((Below.refl _ _).alloc (Nat.le_refl _) _)) _ _ _ _ rfl (isb_two rfl HTG.out.symm HVN.out.symm) (by omega) (by have := HB6.out; simp; omega) ?_; intro A7 c7 w7 hown hfr hat; have HO7 := Lib.hid (Own.rebase (B' := w.heap.size) hown HWR.out); replace HB := Lib.hid (below_fr (HB.out.alloc HB.out.size _) hfr (by rintro i ⟨ad, e, rfl⟩; exact Nat.le_trans HWR.out (HO6.out.addr ad e).2.1)); clear hown hfr hat)
                    go_wp2_with fail
                    go_ret2
                    refine ⟨_, _, _, _, rfl, HB.out, fun hf => ?_⟩
                    have hfin : (true && (putE V (fitsU V U) == 0)) = true := by rw [HER.out, Bool.true_and]; exact hf
                    obtain ⟨D, g1, g2, g3, g4⟩ := vec_whole (kd := kd) (TG := TG) HW.out HV.out HLS.out hn hC3 HWC.out HR.out (by have h1 := HKD.out; have h2 := HTG.out; omega) HT.out hj HO5.out.1 HRM.out (fun _ => HU.out) (fun e => by have h1 := HV2.out e; have h2 := HK6.out; omega) hfin
                    refine ⟨D, g1, g2, g3, ?_⟩
                    rw [← g4]
                    exact HO7.out
                · have hmod : ((k5 : Int) % (V : Int) != 0) = true := by
                    have : (k5 : Int) % (V : Int) = ((k5 % V : Nat) : Int) := by simp
                    rw [this]
                    simpa using (show ((k5 % V : Nat) : Int) ≠ 0 by omega)
                  have hv2 : V = 2 ∧ j = 0 := by
                    have h1 := HJ.out
                    rcases hV with rfl | rfl
                    · omega
                    · refine ⟨rfl, ?_⟩
                      have : j = 0 ∨ j = 1 := by omega
                      rcases this with h | h
                      · exact h
                      · exact absurd (h1 h).2 hr
                  obtain ⟨rfl, rfl⟩ := hv2
                  have HMD := Lib.hid hr
                  clear hr
                  go_wp2_with (at_builtin; refine wpl_app _ rfl (.tmp 89) (.tmp 90) _ rfl 5 _ 1 1 Tryz.underlying22 info_b rfl (by omega) bc_len bc_one _ _ _ _ _ rfl (HO5.out.pure ((Below.refl _ _).alloc (Nat.le_refl _) _)) _ _ _ _ rfl (isb_new _ _ (0 : UInt8) rfl) (by omega) (by have := HB.out.size; simp; omega) ?_; intro A7 c7 w7 hown hfr hat; have HO7 := Lib.hid hown; replace HB := Lib.hid (below_fr (HB.out.alloc HB.out.size _) hfr (by rintro i ⟨ad, e, rfl⟩; exact (HO5.out.addr ad e).2.1)); clear hown hfr hat)
                  go_roundw
                  case rel =>
                    refine ⟨A7, k5 + 1, c7, 1, rfl, ?_, Nat.le_refl _, fun _ => ⟨rfl, by have := HMD.out; omega⟩, HB.out⟩
                    have := HO7.out
                    simpa using this
                  case measure =>
                    have := HMD.out
                    simp only [slen]
                    simp
                    omega
            · have hex : decide (K < k) = false := decide_eq_false hKk
              clear hKk
              go_upto_if 83 with fail
              clear hex
              go_cut [18] from 21 to 117 (fun u18 wx => ∃ wy, wy = wx ∧ ∃ V : Nat, u18 = .int .i64 V ∧ (V = 1 ∨ V = 2) ∧ (V = 2 → 255 + W < k4) ∧ wx = wr)
              case first =>
                have hws : IntKind.i64.wrap ((k4 : Int) - W) = (k4 : Int) - W := IntWalk.i64_in _ (by omega)
                by_cases hbig : (255 : Int) < (k4 : Int) - W
                · have hd : decide ((255 : Int) < (k4 : Int) - W) = true := decide_eq_true hbig
                  go_wp2_with fail
                  go_meet
                  exact ⟨_, rfl, 2, rfl, .inr rfl, fun _ => by omega, rfl⟩
                · have hd : decide ((255 : Int) < (k4 : Int) - W) = false := decide_eq_false hbig
                  go_wp2_with fail
                  go_meet
                  exact ⟨_, rfl, 1, rfl, .inl rfl, fun h => by omega, rfl⟩
              case rest =>
              obtain ⟨w8, rfl, V, rfl, hV, hV2, rfl⟩ := hcut
              have HV := Lib.hid hV
              have HV2 := Lib.hid hV2
              clear hV2
              go_wp2_with fail
              go_loopw [8] (fun b wr => Vec3 (m ++ List.replicate K T) V w b wr) (fun b _ => slen b % V)
              case atStart => exact ⟨A4, k4, c4, 0, rfl, by simpa using HO4.out, by omega, fun h => absurd h (by decide), HB.out⟩
              case round =>
                clear HO4 HB
                obtain ⟨A5, k5, c5, j, rfl, hO5, hj, hj2, hb5⟩ := hrel
                have HO5 := Lib.hid hO5
                have HB := Lib.hid hb5
                have hk6 : k5 = k4 + j := by
                  have h1 := HK4.out
                  rw [← hO5.1, List.length_append, List.length_append, List.length_replicate, List.length_replicate, HML.out, h1]
                have hk7 : k5 ≤ 1001 := by omega
                have HK6 := Lib.hid hk6
                have HJ := Lib.hid hj2
                clear hO5 hb5 hk6 hj2
                by_cases hr : k5 % V = 0
                · have hmod : ((k5 : Int) % (V : Int) != 0) = false := by
                    have : (k5 : Int) % (V : Int) = ((k5 % V : Nat) : Int) := by simp
                    rw [this, hr]
                    rfl
                  have HRM := Lib.hid hr
                  clear hr
                  have hkd3 : 0 ≤ kd ∧ kd ≤ 12 := by have := HKD.out; omega
                  obtain ⟨TG, htg⟩ : ∃ TG : UInt8, (TG.toNat : Int) = 4 * kd + C := ⟨UInt8.ofNat (4 * kd + C).toNat, by rw [UInt8.toNat_ofNat']; omega⟩
                  have hvn : ((UInt8.ofNat V).toNat : Int) = V := by rw [UInt8.toNat_ofNat']; omega
                  obtain ⟨U, hU, hU64⟩ : ∃ U : Nat, IntKind.u64.wrap ((k5 : Int) - W) = U ∧ (U : Int) < 18446744073709551616 := by
                    rw [IntKind.wrap_u64]
                    exact ⟨(((k5 : Int) - W) % 18446744073709551616).toNat, by omega, by omega⟩
                  have HU := Lib.hid (show W ≤ k5 → U = k5 - W from by rw [IntKind.wrap_u64] at hU; omega)
                  have hws : IntKind.i64.wrap ((k5 : Int) - W) = (k5 : Int) - W := IntWalk.i64_in _ (by omega)
                  have hs4 : IntKind.i64.wrap (4 * kd) = 4 * kd := IntWalk.i64_in _ (by omega)
                  have hs5 : IntKind.i64.wrap (4 * kd + (C : Int)) = 4 * kd + C := IntWalk.i64_in _ (by omega)
                  have hs6 : IntKind.u8.wrap (4 * kd + (C : Int)) = 4 * kd + C := by rw [IntKind.wrap_u8]; omega
                  have hs7 : IntKind.u8.wrap (V : Int) = V := by rw [IntKind.wrap_u8]; omega
                  obtain ⟨er, her⟩ : ∃ x, putE V (fitsU V U) = x := ⟨_, rfl⟩
                  have HER := Lib.hid her
                  have HTG := Lib.hid htg
                  have HVN := Lib.hid hvn
                  have HU64 := Lib.hid hU64
                  have hpl := putB_le (l := m ++ List.replicate K T ++ List.replicate j 0) (W := V) (u := U) (b := fitsU V U) (by rcases hV with rfl | rfl <;> decide)
                  rw [HO5.out.1] at hpl
                  clear her htg hvn hU64
                  go_wp2_with fail
                  go_at_call 20
                  refine (put_spec A5 k5 c5 U V _ _ HO5.out.is HO5.out.cap.1 (by omega) HU64.out).mono ?_
                  rintro e w6 ⟨A6, n6, c6, rfl, hO6, hb6⟩
                  rw [Int.toNat_natCast] at hO6
                  rw [Int.toNat_natCast, HER.out]
                  have HO6 := Lib.hid hO6
                  have hn6 : n6 ≤ 1010 := by rw [← hO6.1]; omega
                  have HB6 := Lib.hid hb6.size
                  have HWR := Lib.hid HB.out.size
                  replace HB := Lib.hid (pure_below HB.out hb6)
                  clear hO6 hb6 hU hws HU64
                  cases fi with
                  | false =>
                    go_wp2_with (at_builtin; refine wpl_app _ rfl (.tmp 103) (.tmp 111) _ rfl 5 _ 1 1 Tryz.underlying22 info_b rfl (by omega) bc_len bc_one _ _ _ _ _ rfl (HO6.out.pure ((Below.refl _ _).alloc (Nat.le_refl _) _)) _ _ _ _ rfl (isb_two rfl HTG.out.symm HVN.out.symm) (by omega) (by have := HB6.out; simp; omega) ?_; intro A7 c7 w7 hown hfr hat; have HO7 := Lib.hid (Own.rebase (B' := w.heap.size) hown HWR.out); replace HB := Lib.hid (below_fr (HB.out.alloc HB.out.size _) hfr (by rintro i ⟨ad, e, rfl⟩; exact Nat.le_trans HWR.out (HO6.out.addr ad e).2.1)); clear hown hfr hat)
                    go_wp2_with fail
                    go_ret2
                    exact ⟨_, _, _, false, rfl, HB.out, fun h => by cases h⟩
                  | true =>
                    go_wp2_with (at_builtin; refine wpl_app _ rfl (.tmp 103) (.tmp 111) _ rfl 5 _ 1 1 Tryz.underlying22 info_b rfl (by omega) bc_len bc_one _ _ _ _ _ rfl (HO6.out.pure ((Below.refl _ _).alloc (Nat.le_refl _) _)) _ _ _ _ rfl (isb_two rfl HTG.out.symm HVN.out.symm) (by omega) (by have := HB6.out; simp; omega) ?_; intro A7 c7 w7 hown hfr hat; have HO7 := Lib.hid (Own.rebase (B' := w.heap.size) hown HWR.out); replace HB := Lib.hid (below_fr (HB.out.alloc HB.out.size _) hfr (by rintro i ⟨ad, e, rfl⟩; exact Nat.le_trans HWR.out (HO6.out.addr ad e).2.1)); clear hown hfr hat)
                    go_wp2_with fail
                    go_ret2
                    refine ⟨_, _, _, _, rfl, HB.out, fun hf => ?_⟩
                    have hfin : (true && (putE V (fitsU V U) == 0)) = true := by rw [HER.out, Bool.true_and]; exact hf
                    obtain ⟨D, g1, g2, g3, g4⟩ := vec_whole (kd := kd) (TG := TG) HW.out HV.out HLS.out hn hC3 HWC.out HR.out (by have h1 := HKD.out; have h2 := HTG.out; omega) HT.out hj HO5.out.1 HRM.out (fun _ => HU.out) (fun e => by have h1 := HV2.out e; have h2 := HK6.out; omega) hfin
                    refine ⟨D, g1, g2, g3, ?_⟩
                    rw [← g4]
                    exact HO7.out
                · have hmod : ((k5 : Int) % (V : Int) != 0) = true := by
                    have : (k5 : Int) % (V : Int) = ((k5 % V : Nat) : Int) := by simp
                    rw [this]
                    simpa using (show ((k5 % V : Nat) : Int) ≠ 0 by omega)
                  have hv2 : V = 2 ∧ j = 0 := by
                    have h1 := HJ.out
                    rcases hV with rfl | rfl
                    · omega
                    · refine ⟨rfl, ?_⟩
                      have : j = 0 ∨ j = 1 := by omega
                      rcases this with h | h
                      · exact h
                      · exact absurd (h1 h).2 hr
                  obtain ⟨rfl, rfl⟩ := hv2
                  have HMD := Lib.hid hr
                  clear hr
                  go_wp2_with (at_builtin; refine wpl_app _ rfl (.tmp 89) (.tmp 90) _ rfl 5 _ 1 1 Tryz.underlying22 info_b rfl (by omega) bc_len bc_one _ _ _ _ _ rfl (HO5.out.pure ((Below.refl _ _).alloc (Nat.le_refl _) _)) _ _ _ _ rfl (isb_new _ _ (0 : UInt8) rfl) (by omega) (by have := HB.out.size; simp; omega) ?_; intro A7 c7 w7 hown hfr hat; have HO7 := Lib.hid hown; replace HB := Lib.hid (below_fr (HB.out.alloc HB.out.size _) hfr (by rintro i ⟨ad, e, rfl⟩; exact (HO5.out.addr ad e).2.1)); clear hown hfr hat)
                  go_roundw
                  case rel =>
                    refine ⟨A7, k5 + 1, c7, 1, rfl, ?_, Nat.le_refl _, fun _ => ⟨rfl, by have := HMD.out; omega⟩, HB.out⟩
                    have := HO7.out
                    simpa using this
                  case measure =>
                    have := HMD.out
                    simp only [slen]
                    simp
                    omega
end Go.Proofs.YtejalfjeihlpeaaGreat
