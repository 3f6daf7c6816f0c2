/-
  Package le: the reference's Put, PutInt, Set; spoiling.
-/
import Derived.Test.YtbgakgljgdiimaaLeF
namespace Go.Proofs.Ytbgakgljgdiimaa
open Go.RowKit Go.Acc

set_option maxHeartbeats 1000000 in
theorem rput_spec (A : Option Addr) (n c u : Nat) (x : Int) (l : List UInt8) (w : World) (h : IsB w A n l) (hn : n ≤ 1099511627776) (hu : (u : Int) < 18446744073709551616) :
    Calls Try.prog 18 #[.slice A n c, .int .i64 x, .int .u64 u] w (PutW w (putB l x u (fitsU x.toNat u)) (putE x (fitsU x.toNat u))) := by
  have HR := Lib.hid h
  have HU := Lib.hid hu
  have HV := HU
  have HN := Lib.hid hn
  clear h hu hn
  cases hx : isW x with
  | false =>
    have e1 := Lib.hid (show putE x (fitsU x.toNat u) = 2 by simp [putE, hx])
    have e2 := Lib.hid (show putB l x u (fitsU x.toNat u) = [] by simp [putB, hx])
    have HX := Lib.hid hx
    clear hx
    go_enter Try.func18, Try.ntmps18
    go_wp2_with (go_at_call 33; refine (wide_spec x _).mono ?_; rw [HX.out]; rintro e w' ⟨rfl, rfl⟩)
    go_ret2
    rw [e1.out, e2.out]
    exact ⟨none, 0, 0, rfl, Own.nil _ _, Below.refl _ _⟩
  | true =>
    have hx8 : (1 : Int) ≤ x ∧ (x : Int) ≤ 8 := by have := isW_iff.1 hx; omega
    obtain ⟨y, rfl⟩ : ∃ y : Nat, x = y := ⟨x.toNat, by omega⟩
    have hy8 : y ≤ 8 := by omega
    clear hx8
    cases hf : fitsU y u with
    | false =>
      have e1 := Lib.hid (show putE y (fitsU (y : Int).toNat u) = 10 by simp [putE, hx, hf])
      have e2 := Lib.hid (show putB l y u (fitsU (y : Int).toNat u) = [] by simp [putB, hf])
      have HX := Lib.hid hx
      have HF := Lib.hid hf
      clear hx hf
      go_enter Try.func18, Try.ntmps18
      go_wp2_with (first
        | (go_at_call 33; refine (wide_spec y _).mono ?_; rw [HX.out]; rintro e w' ⟨rfl, rfl⟩)
        | (go_at_call 34; refine (rfits_spec y u _ HX.out HU.out).mono ?_; rw [HF.out]; rintro e w' ⟨rfl, rfl⟩))
      go_ret2
      rw [e1.out, e2.out]
      exact ⟨none, 0, 0, rfl, Own.nil _ _, Below.refl _ _⟩
    | true =>
      have e1 := Lib.hid (show putE y (fitsU (y : Int).toNat u) = 0 by simp [putE, hx, hf])
      have e2 := Lib.hid (show putB l y u (fitsU (y : Int).toNat u) = l ++ leBytes y u by simp [putB, hx, hf])
      have HX := Lib.hid hx
      have HF := Lib.hid hf
      clear hx hf
      go_enter Try.func18, Try.ntmps18
      go_wp2_with (first
        | (go_at_call 33; refine (wide_spec y _).mono ?_; rw [HX.out]; rintro e w' ⟨rfl, rfl⟩)
        | (go_at_call 34; refine (rfits_spec y u _ HX.out HU.out).mono ?_; rw [HF.out]; rintro e w' ⟨rfl, rfl⟩))
      go_at_call 10
      refine (copyb_spec A n c l _ HR.out HN.out).mono ?_
      rintro e w1 ⟨A1, n1, c1, rfl, hO1, hB1⟩
      obtain rfl : n1 = n := by rw [← hO1.1, HR.out.1]
      have HO1 := Lib.hid hO1
      have HB1 := Lib.hid hB1
      clear hO1 hB1
      go_wp2_with fail
      skip
      go_at_call 35
      refine (rdigits_spec y (u) _ hy8 HV.out).mono ?_
      rintro e w2 ⟨A2, n2, c2, rfl, hO2, hB2⟩
      obtain rfl : n2 = y := by rw [← hO2.1, leBytes_length]
      have HO2 := Lib.hid hO2
      have HB2 := Lib.hid hB2
      clear hO2 hB2
      go_wp2_with (at_builtin; refine wpl_app _ rfl (.tmp 16) (.tmp 19) _ rfl 5 _ 1 1 Try.underlying22 info_b rfl (by omega) bc_len bc_one _ _ _ _ _ rfl (HO1.out.pure HB2.out) _ _ _ _ rfl HO2.out.is (by have := HN.out; omega) (Nat.le_trans HB1.out.size HB2.out.size) ?_; intro A3 c3 w3 hown3 hfr3 hat3; have HO3 := Lib.hid hown3; have HF3 := Lib.hid hfr3; clear hown3 hfr3 hat3)
      go_ret2
      rw [e1.out, e2.out]
      refine ⟨A3, _, c3, rfl, HO3.out, below_fr (pure_trans HB1.out HB2.out) HF3.out ?_⟩
      rintro k ⟨ad, h, rfl⟩
      exact (HO1.out.addr ad h).2.1
set_option maxHeartbeats 1000000 in
theorem rputi_spec (A : Option Addr) (n c : Nat) (x m : Int) (l : List UInt8) (w : World) (h : IsB w A n l) (hn : n ≤ 1099511627776) (hm : -9223372036854775808 ≤ m ∧ m ≤ 9223372036854775807) :
    Calls Try.prog 20 #[.slice A n c, .int .i64 x, .int .i64 m] w (PutW w (putB l x (m % 18446744073709551616).toNat (fitsI x.toNat m)) (putE x (fitsI x.toNat m))) := by
  have HR := Lib.hid h
  have HU := Lib.hid hm
  have HV := Lib.hid (show (((m % 18446744073709551616).toNat : Nat) : Int) < 18446744073709551616 by omega)
  have HN := Lib.hid hn
  clear h hm hn
  cases hx : isW x with
  | false =>
    have e1 := Lib.hid (show putE x (fitsI x.toNat m) = 2 by simp [putE, hx])
    have e2 := Lib.hid (show putB l x (m % 18446744073709551616).toNat (fitsI x.toNat m) = [] by simp [putB, hx])
    have HX := Lib.hid hx
    clear hx
    go_enter Try.func20, Try.ntmps20
    go_wp2_with (go_at_call 33; refine (wide_spec x _).mono ?_; rw [HX.out]; rintro e w' ⟨rfl, rfl⟩)
    go_ret2
    rw [e1.out, e2.out]
    exact ⟨none, 0, 0, rfl, Own.nil _ _, Below.refl _ _⟩
  | true =>
    have hx8 : (1 : Int) ≤ x ∧ (x : Int) ≤ 8 := by have := isW_iff.1 hx; omega
    obtain ⟨y, rfl⟩ : ∃ y : Nat, x = y := ⟨x.toNat, by omega⟩
    have hy8 : y ≤ 8 := by omega
    clear hx8
    cases hf : fitsI y m with
    | false =>
      have e1 := Lib.hid (show putE y (fitsI (y : Int).toNat m) = 10 by simp [putE, hx, hf])
      have e2 := Lib.hid (show putB l y (m % 18446744073709551616).toNat (fitsI (y : Int).toNat m) = [] by simp [putB, hf])
      have HX := Lib.hid hx
      have HF := Lib.hid hf
      clear hx hf
      go_enter Try.func20, Try.ntmps20
      go_wp2_with (first
        | (go_at_call 33; refine (wide_spec y _).mono ?_; rw [HX.out]; rintro e w' ⟨rfl, rfl⟩)
        | (go_at_call 38; refine (rfitsi_spec y m _ HX.out).mono ?_; rw [HF.out]; rintro e w' ⟨rfl, rfl⟩))
      go_ret2
      rw [e1.out, e2.out]
      exact ⟨none, 0, 0, rfl, Own.nil _ _, Below.refl _ _⟩
    | true =>
      have e1 := Lib.hid (show putE y (fitsI (y : Int).toNat m) = 0 by simp [putE, hx, hf])
      have e2 := Lib.hid (show putB l y (m % 18446744073709551616).toNat (fitsI (y : Int).toNat m) = l ++ leBytes y (m % 18446744073709551616).toNat by simp [putB, hx, hf])
      have HX := Lib.hid hx
      have HF := Lib.hid hf
      clear hx hf
      go_enter Try.func20, Try.ntmps20
      go_wp2_with (first
        | (go_at_call 33; refine (wide_spec y _).mono ?_; rw [HX.out]; rintro e w' ⟨rfl, rfl⟩)
        | (go_at_call 38; refine (rfitsi_spec y m _ HX.out).mono ?_; rw [HF.out]; rintro e w' ⟨rfl, rfl⟩))
      go_at_call 10
      refine (copyb_spec A n c l _ HR.out HN.out).mono ?_
      rintro e w1 ⟨A1, n1, c1, rfl, hO1, hB1⟩
      obtain rfl : n1 = n := by rw [← hO1.1, HR.out.1]
      have HO1 := Lib.hid hO1
      have HB1 := Lib.hid hB1
      clear hO1 hB1
      go_wp2_with fail
      rw [wrapu m]
      go_at_call 35
      refine (rdigits_spec y ((m % 18446744073709551616).toNat) _ hy8 HV.out).mono ?_
      rintro e w2 ⟨A2, n2, c2, rfl, hO2, hB2⟩
      obtain rfl : n2 = y := by rw [← hO2.1, leBytes_length]
      have HO2 := Lib.hid hO2
      have HB2 := Lib.hid hB2
      clear hO2 hB2
      go_wp2_with (at_builtin; refine wpl_app _ rfl (.tmp 16) (.tmp 20) _ rfl 5 _ 1 1 Try.underlying22 info_b rfl (by omega) bc_len bc_one _ _ _ _ _ rfl (HO1.out.pure HB2.out) _ _ _ _ rfl HO2.out.is (by have := HN.out; omega) (Nat.le_trans HB1.out.size HB2.out.size) ?_; intro A3 c3 w3 hown3 hfr3 hat3; have HO3 := Lib.hid hown3; have HF3 := Lib.hid hfr3; clear hown3 hfr3 hat3)
      go_ret2
      rw [e1.out, e2.out]
      refine ⟨A3, _, c3, rfl, HO3.out, below_fr (pure_trans HB1.out HB2.out) HF3.out ?_⟩
      rintro k ⟨ad, h, rfl⟩
      exact (HO1.out.addr ad h).2.1
set_option maxHeartbeats 1000000 in
theorem rset_spec (A : Option Addr) (n c u : Nat) (a x : Int) (l : List UInt8) (w : World) (h : IsB w A n l) (hc : n ≤ c) (hn : n ≤ 1099511627776) (hu : (u : Int) < 18446744073709551616) :
    Calls Try.prog 22 #[.slice A n c, .int .i64 a, .int .i64 x, .int .u64 u] w (PutW w (setB l a x u (fitsU x.toNat u)) (setE n a x (fitsU x.toNat u))) := by
  have hlen := h.1
  subst hlen
  have HR := Lib.hid h
  have HU := Lib.hid hu
  have HN := Lib.hid hn
  clear h hu hn
  rcases load_cases l a x with ⟨k, y, rfl, rfl, h1, h2, h3, h4, e1, e2⟩ | ⟨e1, e2, e3⟩
  · cases hf : fitsU y u with
    | false =>
      have es := Lib.hid (show setE l.length k y (fitsU (y : Int).toNat u) = 10 by simp [setE, e1, hf])
      have eb := Lib.hid (show setB l k y u (fitsU (y : Int).toNat u) = [] by simp [setB, hf])
      have HE1 := Lib.hid e1
      have HX := Lib.hid h1
      have HF := Lib.hid hf
      clear e1 e2 h1 hf h2
      go_enter Try.func22, Try.ntmps22
      go_wp2_with (first
        | (go_at_call 27; refine (look_spec A l.length c k y _ (by have := HN.out; omega)).mono ?_; rw [HE1.out]; rintro e w' ⟨rfl, rfl⟩)
        | (go_at_call 34; refine (rfits_spec y u _ HX.out HU.out).mono ?_; rw [HF.out]; rintro e w' ⟨rfl, rfl⟩))
      go_ret2
      rw [es.out, eb.out]
      exact ⟨none, 0, 0, rfl, Own.nil _ _, Below.refl _ _⟩
    | true =>
      have es := Lib.hid (show setE l.length k y (fitsU (y : Int).toNat u) = 0 by simp [setE, e1, hf])
      have eb := Lib.hid (show setB l k y u (fitsU (y : Int).toNat u) = l.take k ++ leBytes y u ++ l.drop (k + y) by simp [setB, e1, hf])
      have HE1 := Lib.hid e1
      have HX := Lib.hid h1
      have HF := Lib.hid hf
      have H2 := Lib.hid h2
      have hy8 := h4
      by_cases hcc : c = k + y
      · subst hcc
        clear e1 e2 h1 hf h4
        have HC := Lib.hid hc
        clear hc
        go_enter Try.func22, Try.ntmps22
        go_wp2_with (first
          | (go_at_call 27; refine (look_spec A l.length (k + y) k y _ (by have := HN.out; omega)).mono ?_; rw [HE1.out]; rintro e w' ⟨rfl, rfl⟩)
          | (go_at_call 34; refine (rfits_spec y u _ HX.out HU.out).mono ?_; rw [HF.out]; rintro e w' ⟨rfl, rfl⟩))
        go_at_call 10
        refine (copyb_spec A k (k + y) (l.take k) _ (HR.out.take bc_len (by have := H2.out; omega)) (by have := HN.out; have := H2.out; omega)).mono ?_
        rintro e w1 ⟨A1, n1, c1, rfl, hO1, hB1⟩
        obtain rfl : k = n1 := by rw [← hO1.1, List.length_take]; have := H2.out; omega
        have HO1 := Lib.hid hO1
        have HB1 := Lib.hid hB1
        clear hO1 hB1
        go_wp2_with fail
        go_at_call 35
        refine (rdigits_spec y u _ hy8 HU.out).mono ?_
        rintro e w2 ⟨A2, n2, c2, rfl, hO2, hB2⟩
        obtain rfl : y = n2 := by rw [← hO2.1, leBytes_length]
        have HO2 := Lib.hid hO2
        have HB2 := Lib.hid hB2
        clear hO2 hB2
        have h2' := H2.out
        have ew : IntKind.i64.wrap ((k : Int) + y) = ((k + y : Nat) : Int) := by have := HN.out; rw [IntWalk.i64_in _ (by omega)]; omega
        go_wp2_with (first
          | (at_builtin; refine wpl_app _ rfl (.tmp 26) (.tmp 29) _ rfl 5 _ 1 1 Try.underlying22 info_b rfl (by omega) bc_len bc_one _ _ _ _ _ rfl (HO1.out.pure HB2.out) _ _ _ _ rfl HO2.out.is (by have := HN.out; have := H2.out; omega) (Nat.le_trans HB1.out.size HB2.out.size) ?_; intro A3 c3 w3 hown3 hfr3 hat3; have HO3 := Lib.hid hown3; have HF3 := Lib.hid hfr3; clear hown3 hfr3 hat3; have hS3 : ∀ j, (∃ ad, A1 = some ad ∧ j = ad.block) → w.heap.size ≤ j := (by rintro j ⟨ad, h, rfl⟩; exact (HO1.out.addr ad h).2.1); have HB3 := Lib.hid (below_fr (pure_trans HB1.out HB2.out) HF3.out hS3); clear hS3)
          | (at_builtin; refine wpl_app _ rfl (.tmp 31) (.tmp 36) _ rfl 5 _ 1 1 Try.underlying22 info_b rfl (by omega) bc_len bc_one _ _ _ _ _ rfl HO3.out _ _ _ _ rfl ((HR.out.cut0 (k := k + y) rfl HC.out).pure HB3.out) (by have := HN.out; have := H2.out; omega) HB3.out.size ?_; intro A4 c4 w4 hown4 hfr4 hat4; have HO4 := Lib.hid hown4; have HF4 := Lib.hid hfr4; clear hown4 hfr4 hat4))
        go_ret2
        rw [es.out, eb.out]
        refine ⟨A4, _, c4, rfl, (by have := HO4.out; rwa [show k + y + (l.length - (k + y)) = l.length from by omega] at this), below_fr HB3.out HF4.out ?_⟩
        rintro k ⟨ad, h, rfl⟩
        exact (HO3.out.addr ad h).2.1
      · clear e1 e2 h1 hf h4
        go_enter Try.func22, Try.ntmps22
        go_wp2_with (first
          | (go_at_call 27; refine (look_spec A l.length (c) k y _ (by have := HN.out; omega)).mono ?_; rw [HE1.out]; rintro e w' ⟨rfl, rfl⟩)
          | (go_at_call 34; refine (rfits_spec y u _ HX.out HU.out).mono ?_; rw [HF.out]; rintro e w' ⟨rfl, rfl⟩))
        go_at_call 10
        refine (copyb_spec A k (c) (l.take k) _ (HR.out.take bc_len (by have := H2.out; omega)) (by have := HN.out; have := H2.out; omega)).mono ?_
        rintro e w1 ⟨A1, n1, c1, rfl, hO1, hB1⟩
        obtain rfl : k = n1 := by rw [← hO1.1, List.length_take]; have := H2.out; omega
        have HO1 := Lib.hid hO1
        have HB1 := Lib.hid hB1
        clear hO1 hB1
        go_wp2_with fail
        go_at_call 35
        refine (rdigits_spec y u _ hy8 HU.out).mono ?_
        rintro e w2 ⟨A2, n2, c2, rfl, hO2, hB2⟩
        obtain rfl : y = n2 := by rw [← hO2.1, leBytes_length]
        have HO2 := Lib.hid hO2
        have HB2 := Lib.hid hB2
        clear hO2 hB2
        have h2' := H2.out
        have ew : IntKind.i64.wrap ((k : Int) + y) = ((k + y : Nat) : Int) := by have := HN.out; rw [IntWalk.i64_in _ (by omega)]; omega
        go_wp2_with (first
          | (at_builtin; refine wpl_app _ rfl (.tmp 26) (.tmp 29) _ rfl 5 _ 1 1 Try.underlying22 info_b rfl (by omega) bc_len bc_one _ _ _ _ _ rfl (HO1.out.pure HB2.out) _ _ _ _ rfl HO2.out.is (by have := HN.out; have := H2.out; omega) (Nat.le_trans HB1.out.size HB2.out.size) ?_; intro A3 c3 w3 hown3 hfr3 hat3; have HO3 := Lib.hid hown3; have HF3 := Lib.hid hfr3; clear hown3 hfr3 hat3; have hS3 : ∀ j, (∃ ad, A1 = some ad ∧ j = ad.block) → w.heap.size ≤ j := (by rintro j ⟨ad, h, rfl⟩; exact (HO1.out.addr ad h).2.1); have HB3 := Lib.hid (below_fr (pure_trans HB1.out HB2.out) HF3.out hS3); clear hS3)
          | (at_builtin; refine wpl_app _ rfl (.tmp 31) (.tmp 36) _ rfl 5 _ 1 1 Try.underlying22 info_b rfl (by omega) bc_len bc_one _ _ _ _ _ rfl HO3.out _ _ _ _ rfl (by have h := (HR.out.cut1 bc_len (k := k + y)).pure HB3.out; rw [Nat.mul_one] at h; exact h) (by have := HN.out; have := H2.out; omega) HB3.out.size ?_; intro A4 c4 w4 hown4 hfr4 hat4; have HO4 := Lib.hid hown4; have HF4 := Lib.hid hfr4; clear hown4 hfr4 hat4))
        go_ret2
        rw [es.out, eb.out]
        refine ⟨A4, _, c4, rfl, (by have := HO4.out; rwa [show k + y + (l.length - (k + y)) = l.length from by omega] at this), below_fr HB3.out HF4.out ?_⟩
        rintro k ⟨ad, h, rfl⟩
        exact (HO3.out.addr ad h).2.1
  · have es := Lib.hid (show setE l.length a x (fitsU x.toNat u) = loadE l.length a x by simp [setE, e1])
    have eb := Lib.hid (show setB l a x u (fitsU x.toNat u) = [] by simp [setB, e1])
    have HE := Lib.hid e1
    have e0 : (loadE l.length a x != 0) = true := by simpa using e1
    clear e1 e2 e3
    go_enter Try.func22, Try.ntmps22
    go_wp2_with (go_at_call 27; refine (look_spec A l.length c a x _ (by have := HN.out; omega)).mono ?_; rintro e w' ⟨rfl, rfl⟩)
    go_ret2
    rw [es.out, eb.out]
    exact ⟨none, 0, 0, rfl, Own.nil _ _, Below.refl _ _⟩
end Go.Proofs.Ytbgakgljgdiimaa
