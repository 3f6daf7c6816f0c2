/-
  Package minimal: documents of one number, in plain terms; the property MinimalRoots.
-/
import Derived.Test.YtejalfjeihlpeaaGreatQ39
namespace Go.Proofs.YtejalfjeihlpeaaGreat
open Go.RowKit Go.Acc
/-- The document of one number of W bytes. -/
def rtDoc (W U : Nat) (c : UInt8) : List UInt8 := leBytes W U ++ [c, UInt8.ofNat W]
section
variable {W U : Nat} {c : UInt8} {t : Int}
theorem rt_len : (rtDoc W U c).length = W + 2 := by unfold rtDoc; rw [List.length_append, leBytes_length]; rfl
theorem rt_root (hW : isW (W : Int) = true) (hu : unE c = 0) (hT : unT c = t) (hV : unW c = W) : rootE (rtDoc W U c) = 0 ∧ cvRoot (rtDoc W U c) = ⟨0, W, t, W⟩ := by
  have h8 := isW_iff.1 hW
  have hlen := rt_len (W := W) (U := U) (c := c)
  have hg : ∀ i, (rtDoc W U c).getD (W + i) 0 = [c, UInt8.ofNat W].getD i 0 := by
    intro i
    have := getD_pre (leBytes W U) [c, UInt8.ofNat W] i 0
    rw [leBytes_length] at this
    exact this
  have hx : (rtDoc W U c).getD ((rtDoc W U c).length - 1) 0 = UInt8.ofNat W := by
    rw [hlen, show W + 2 - 1 = W + 1 from rfl, hg]
    rfl
  have hy : (rtDoc W U c).getD ((rtDoc W U c).length - 2) 0 = c := by
    rw [hlen, show W + 2 - 2 = W + 0 from rfl, hg]
    rfl
  have hxn : (UInt8.ofNat W).toNat = W := by rw [UInt8.toNat_ofNat']; omega
  have h4 := rootE_4 (l := rtDoc W U c) (by omega) hx hy (by rw [hxn]; exact hW) hu
  have hz : (((rtDoc W U c).length : Nat) : Int) - 2 - ((UInt8.ofNat W).toNat : Nat) = 0 := by rw [hlen, hxn]; omega
  have hE : rootE (rtDoc W U c) = 0 := by
    rw [h4, hz, if_neg]
    simp
  refine ⟨hE, ?_⟩
  have hr := rootR_ok hx hy hE
  unfold cvRoot
  rw [hr, hz, hxn, hT, hV]
theorem rt_check (hW : isW (W : Int) = true) (hu : unE c = 0) (hT : unT c = t) (hV : unW c = W) (hi : inlineT t = true) :
    mnCheck (rtDoc W U c) 1 = if 1 < (W : Int) ∧ mnStands (rtDoc W U c) 0 W t W 0 ((W : Int) / 2) = true then (0, 10) else (0, 0) := by
  obtain ⟨hE, hR⟩ := rt_root (U := U) hW hu hT hV
  have hp : cvPartsE (rtDoc W U c) 1 = 0 := by
    have hl : (cvS1 (rtDoc W U c) 1).left = 1 := by unfold cvS1; rw [tell_left, tell_left]
    have a1 : ¬ rootE (rtDoc W U c) ≠ 0 := by rw [hE]; decide
    unfold cvPartsE cvVisit
    rw [if_neg a1, hR]
    show (cvCome _ 2 _ _).2 = 0
    unfold cvCome
    rw [if_neg (by rw [hl]; decide), if_pos hi]
  have hm : mnRun (rtDoc W U c) ⟨0, W, t, W⟩ = .ok [] := by
    unfold mnRun mnFuel mnGo
    rw [if_pos hi]
    rfl
  have a1 : ¬ cvPartsE (rtDoc W U c) 1 ≠ 0 := by rw [hp]; decide
  unfold mnCheck
  rw [if_neg a1, hR, hm]
  rfl
end
theorem wdU_half {W : Nat} (u : Nat) (hW : isW (W : Int) = true) : (1 < (W : Int) ∧ wdU u ≤ (W : Int) / 2) ↔ wdU u < W := by
  have h8 := isW_iff.1 hW
  unfold wdU
  (repeat' split) <;> omega
theorem wdI_half {W : Nat} (n : Int) (hW : isW (W : Int) = true) : (1 < (W : Int) ∧ wdI n ≤ (W : Int) / 2) ↔ wdI n < W := by
  have h8 := isW_iff.1 hW
  unfold wdI
  (repeat' split) <;> omega
theorem rt_u {W U : Nat} {c : UInt8} (hW : isW (W : Int) = true) (hu : unE c = 0) (hT : unT c = 2) (hV : unW c = W) (hf : U < 2 ^ (8 * W)) :
    mnCheck (rtDoc W U c) 1 = if wdU U < W then (0, 10) else (0, 0) := by
  rw [rt_check (t := 2) hW hu hT hV (by decide)]
  have hl : loadU (rtDoc W U c) 0 W = U := by
    have := back_load (l := []) (k := [c, UInt8.ofNat W]) (n := 0) hW hf rfl
    exact this
  have hs : mnStands (rtDoc W U c) 0 W 2 W 0 ((W : Int) / 2) = decide (wdU U ≤ (W : Int) / 2) := by
    unfold mnStands mnP
    rw [if_neg (by decide), if_pos rfl, hl]
  rw [hs]
  simp only [decide_eq_true_eq, wdU_half U hW]
theorem sx_back {W : Nat} {n : Int} (hW : isW (W : Int) = true) (hf : fitsI W n = true) (hn : -9223372036854775808 ≤ n ∧ n ≤ 9223372036854775807) : sx W ((n % 18446744073709551616).toNat % 2 ^ (8 * W)) = n := by
  have h8 : W = 1 ∨ W = 2 ∨ W = 4 ∨ W = 8 := by have := isW_iff.1 hW; omega
  have hf := of_decide_eq_true hf
  unfold sx
  rcases h8 with rfl | rfl | rfl | rfl <;> simp only [Nat.reduceMul, Nat.reducePow, Nat.reduceSub, Int.reducePow] at hf ⊢ <;> split <;> omega
theorem rt_i {W : Nat} {n : Int} {c : UInt8} (hW : isW (W : Int) = true) (hu : unE c = 0) (hT : unT c = 1) (hV : unW c = W) (hf : fitsI W n = true) (hn : -9223372036854775808 ≤ n ∧ n ≤ 9223372036854775807) :
    mnCheck (rtDoc W (n % 18446744073709551616).toNat c) 1 = if wdI n < W then (0, 10) else (0, 0) := by
  rw [rt_check (t := 1) hW hu hT hV (by decide)]
  have hl : loadI (rtDoc W (n % 18446744073709551616).toNat c) 0 W = n := by
    have h1 := back_loadi (l := []) (k := [c, UInt8.ofNat W]) (y := W) (u := (n % 18446744073709551616).toNat % 2 ^ (8 * W)) (n := 0) hW (Nat.mod_lt _ (Nat.two_pow_pos _)) rfl
    rw [leBytes_mod, sx_back hW hf hn] at h1
    exact h1
  have hs : mnStands (rtDoc W (n % 18446744073709551616).toNat c) 0 W 1 W 0 ((W : Int) / 2) = decide (wdI n ≤ (W : Int) / 2) := by
    unfold mnStands mnS
    rw [if_pos rfl, hl]
  rw [hs]
  simp only [decide_eq_true_eq, wdI_half n hW]
theorem wrap64_rng (u : Int) : -9223372036854775808 ≤ wrap64 u ∧ wrap64 u ≤ 9223372036854775807 := by unfold wrap64; omega
theorem fitsU_wd0 {W u : Nat} (hW : isW (W : Int) = true) (hu : (u : Int) < 18446744073709551616) (h : fitsU W u = false) : (W : Int) < wdU u := by
  have h8 : W = 1 ∨ W = 2 ∨ W = 4 ∨ W = 8 := by have := isW_iff.1 hW; omega
  have h := of_decide_eq_false h
  unfold wdU
  rcases h8 with rfl | rfl | rfl | rfl <;> simp only [Nat.reduceMul, Nat.reducePow] at h <;> (repeat' split) <;> omega
theorem fitsI_wd0 {W : Nat} {n : Int} (hW : isW (W : Int) = true) (hn : -9223372036854775808 ≤ n ∧ n ≤ 9223372036854775807) (h : fitsI W n = false) : (W : Int) < wdI n := by
  have h8 : W = 1 ∨ W = 2 ∨ W = 4 ∨ W = 8 := by have := isW_iff.1 hW; omega
  have h := of_decide_eq_false h
  unfold wdI
  rcases h8 with rfl | rfl | rfl | rfl <;> simp only [Nat.reduceMul, Nat.reduceSub, Int.reducePow, Int.reduceNeg] at h <;> (repeat' split) <;> omega
set_option maxRecDepth 100000 in
set_option maxHeartbeats 2000000 in
theorem minroots_u (u : Nat) (x : Int) (w : World) (hu : (u : Int) < 18446744073709551616) :
    Calls Tryz.prog 6 #[.int .u64 u, .int .i64 x, .bool false] w fun e w' => e = .returned (.bool true) ∧ Below w.heap.size w w' := by
  have HU := Lib.hid hu
  obtain ⟨k0, hk0⟩ : ∃ k, wdU u = k := ⟨_, rfl⟩
  have HK0 := Lib.hid hk0
  clear hu hk0
  have h4 : x % 4 = 0 ∨ x % 4 = 1 ∨ x % 4 = 2 ∨ x % 4 = 3 := by omega
  rcases h4 with hx | hx | hx | hx
  · have hsh : wrap64 (2 ^ (x % 4).toNat) = 1 := by rw [hx]; simp [wrap64]
    go_enter Tryz.func6, Tryz.ntmps6
    go_wp2_with fail
    go_at_call 17
    refine (bring_spec x 4 _ (by decide) (by decide)).mono ?_
    rintro e w1 ⟨rfl, rfl⟩
    go_wp2_with fail
    clear hsh hx
    go_at_call 19
    refine (code_spec 1 _).mono ?_
    rw [show codeW 1 = 0 from rfl, show codeE 1 = 0 from rfl]
    rintro e w1 ⟨rfl, rfl⟩
    go_wp2_with fail
    go_at_call 20
    refine (put_spec none 0 0 u 1 [] _ (Is.nil _ _) (by omega) (by omega) HU.out).mono ?_
    rintro e w1 ⟨A1, n1, c1, rfl, hO, hb⟩
    have HB := Lib.hid hb
    have HS1 := Lib.hid hb
    have HWS := Lib.hid (Nat.le_refl w.heap.size)
    clear hb
    go_wp2_with fail
    go_at_call 21
    refine (wof_is u k0 _ (by have := HU.out; omega) HK0.out).mono ?_
    rintro e w2 ⟨rfl, rfl⟩
    by_cases hf : fitsU 1 u = true
    · have e1 : putE 1 (fitsU 1 u) = 0 := by rw [hf]; decide
      have e2 : putB [] 1 u (fitsU (1 : Int).toNat u) = leBytes 1 u := by rw [show (1 : Int).toNat = 1 from rfl, hf]; rfl
      rw [e2] at hO
      rw [e1]
      obtain rfl : 1 = n1 := by rw [← hO.1, leBytes_length]
      have hul := fits_lt hf HU.out
      have hck0 := rt_u (W := 1) (U := u) (c := 8) (by decide) (by decide) (by decide) (by decide) hul
      rw [HK0.out] at hck0
      have HCK := Lib.hid (show mnCheck (rtDoc 1 u 8) 1 = if k0 < (1 : Int) then (0, 10) else (0, 0) from hck0)
      have HO := Lib.hid hO
      have HBS := Lib.hid (show w.heap.size ≤ (w1.alloc (.cells #[.int .u8 8, .int .u8 1] 5)).heap.size by have := HB.out.size; simp; omega)
      clear e1 e2 hO hul hck0 hf
      obtain ⟨k, rfl⟩ : ∃ k, k = k0 := ⟨_, rfl⟩
      go_wp2_with (at_builtin; refine wpl_app _ rfl (.tmp 54) (.tmp 62) _ rfl 5 _ 1 1 Tryz.underlying22 info_b rfl (by omega) bc_len bc_one _ _ _ _ _ rfl (HO.out.pure ((Below.refl _ _).alloc (Nat.le_refl _) _)) _ _ _ _ rfl (isb_vs_ (vs := #[.int .u8 8, .int .u8 1]) (n := 2) (by simp) (by rfl) (by rfl)) (by omega) HBS.out ?_; intro A4 c4 w4 hown hfr hat; have HO4 := Lib.hid (show OwnB w4 _ A4 (1 + 2) c4 (rtDoc 1 u 8) from hown); replace HB := Lib.hid (below_fr (HB.out.alloc HB.out.size _) hfr (by rintro j ⟨ad, e, rfl⟩; exact Nat.le_trans HWS.out (HO.out.addr ad e).2.1)); clear hown hfr hat)
      go_wp2_with fail
      go_at_call 14
      by_cases hlt : k < 1
      · have hck := HCK.out
        rw [if_pos hlt] at hck
        refine (check_is A4 (1 + 2) c4 1 0 10 _ _ HO4.out.is HO4.out.cap.1 (by omega) (by decide) hck).mono ?_
        rintro e w5 ⟨rfl, hb⟩
        replace HB := Lib.hid (pure_below HB.out hb)
        clear hb hck
        go_wp2_with fail
        go_at_call 16
        refine (mnworks_spec _).mono ?_
        rintro e w7 ⟨rfl, hb⟩
        replace HB := Lib.hid (pure_below HB.out hb)
        clear hb
        go_wp2
        go_ret
        exact ⟨rfl, HB.out⟩
      · have hck := HCK.out
        rw [if_neg hlt] at hck
        have hlt2 : decide (k < 1) = false := decide_eq_false hlt
        refine (check_is A4 (1 + 2) c4 1 0 0 _ _ HO4.out.is HO4.out.cap.1 (by omega) (by decide) hck).mono ?_
        rintro e w5 ⟨rfl, hb⟩
        replace HB := Lib.hid (pure_below HB.out hb)
        clear hb hck hlt
        go_wp2_with fail
        go_at_call 16
        refine (mnworks_spec _).mono ?_
        rintro e w7 ⟨rfl, hb⟩
        replace HB := Lib.hid (pure_below HB.out hb)
        clear hb
        go_wp2
        go_ret
        exact ⟨rfl, HB.out⟩
    · have hf' : fitsU 1 u = false := by simpa using hf
      have e1 : putE 1 (fitsU 1 u) = 10 := by rw [hf']; decide
      rw [e1]
      have hw := fitsU_wd0 (W := 1) (by decide) HU.out hf'
      rw [HK0.out] at hw
      have hw : (1 : Int) < k0 := hw
      clear e1 hf hf' hO
      go_wp2_with fail
      go_at_call 16
      refine (mnworks_spec _).mono ?_
      rintro e w7 ⟨rfl, hb⟩
      replace HB := Lib.hid (pure_below HB.out hb)
      clear hb
      go_wp2
      go_ret
      exact ⟨rfl, HB.out⟩
  · have hsh : wrap64 (2 ^ (x % 4).toNat) = 2 := by rw [hx]; simp [wrap64]
    go_enter Tryz.func6, Tryz.ntmps6
    go_wp2_with fail
    go_at_call 17
    refine (bring_spec x 4 _ (by decide) (by decide)).mono ?_
    rintro e w1 ⟨rfl, rfl⟩
    go_wp2_with fail
    clear hsh hx
    go_at_call 19
    refine (code_spec 2 _).mono ?_
    rw [show codeW 2 = 1 from rfl, show codeE 2 = 0 from rfl]
    rintro e w1 ⟨rfl, rfl⟩
    go_wp2_with fail
    go_at_call 20
    refine (put_spec none 0 0 u 2 [] _ (Is.nil _ _) (by omega) (by omega) HU.out).mono ?_
    rintro e w1 ⟨A1, n1, c1, rfl, hO, hb⟩
    have HB := Lib.hid hb
    have HS1 := Lib.hid hb
    have HWS := Lib.hid (Nat.le_refl w.heap.size)
    clear hb
    go_wp2_with fail
    go_at_call 21
    refine (wof_is u k0 _ (by have := HU.out; omega) HK0.out).mono ?_
    rintro e w2 ⟨rfl, rfl⟩
    by_cases hf : fitsU 2 u = true
    · have e1 : putE 2 (fitsU 2 u) = 0 := by rw [hf]; decide
      have e2 : putB [] 2 u (fitsU (2 : Int).toNat u) = leBytes 2 u := by rw [show (2 : Int).toNat = 2 from rfl, hf]; rfl
      rw [e2] at hO
      rw [e1]
      obtain rfl : 2 = n1 := by rw [← hO.1, leBytes_length]
      have hul := fits_lt hf HU.out
      have hck0 := rt_u (W := 2) (U := u) (c := 9) (by decide) (by decide) (by decide) (by decide) hul
      rw [HK0.out] at hck0
      have HCK := Lib.hid (show mnCheck (rtDoc 2 u 9) 1 = if k0 < (2 : Int) then (0, 10) else (0, 0) from hck0)
      have HO := Lib.hid hO
      have HBS := Lib.hid (show w.heap.size ≤ (w1.alloc (.cells #[.int .u8 9, .int .u8 2] 5)).heap.size by have := HB.out.size; simp; omega)
      clear e1 e2 hO hul hck0 hf
      obtain ⟨k, rfl⟩ : ∃ k, k = k0 := ⟨_, rfl⟩
      go_wp2_with (at_builtin; refine wpl_app _ rfl (.tmp 54) (.tmp 62) _ rfl 5 _ 1 1 Tryz.underlying22 info_b rfl (by omega) bc_len bc_one _ _ _ _ _ rfl (HO.out.pure ((Below.refl _ _).alloc (Nat.le_refl _) _)) _ _ _ _ rfl (isb_vs_ (vs := #[.int .u8 9, .int .u8 2]) (n := 2) (by simp) (by rfl) (by rfl)) (by omega) HBS.out ?_; intro A4 c4 w4 hown hfr hat; have HO4 := Lib.hid (show OwnB w4 _ A4 (2 + 2) c4 (rtDoc 2 u 9) from hown); replace HB := Lib.hid (below_fr (HB.out.alloc HB.out.size _) hfr (by rintro j ⟨ad, e, rfl⟩; exact Nat.le_trans HWS.out (HO.out.addr ad e).2.1)); clear hown hfr hat)
      go_wp2_with fail
      go_at_call 14
      by_cases hlt : k < 2
      · have hck := HCK.out
        rw [if_pos hlt] at hck
        refine (check_is A4 (2 + 2) c4 1 0 10 _ _ HO4.out.is HO4.out.cap.1 (by omega) (by decide) hck).mono ?_
        rintro e w5 ⟨rfl, hb⟩
        replace HB := Lib.hid (pure_below HB.out hb)
        clear hb hck
        go_wp2_with fail
        go_at_call 16
        refine (mnworks_spec _).mono ?_
        rintro e w7 ⟨rfl, hb⟩
        replace HB := Lib.hid (pure_below HB.out hb)
        clear hb
        go_wp2
        go_ret
        exact ⟨rfl, HB.out⟩
      · have hck := HCK.out
        rw [if_neg hlt] at hck
        have hlt2 : decide (k < 2) = false := decide_eq_false hlt
        refine (check_is A4 (2 + 2) c4 1 0 0 _ _ HO4.out.is HO4.out.cap.1 (by omega) (by decide) hck).mono ?_
        rintro e w5 ⟨rfl, hb⟩
        replace HB := Lib.hid (pure_below HB.out hb)
        clear hb hck hlt
        go_wp2_with fail
        go_at_call 16
        refine (mnworks_spec _).mono ?_
        rintro e w7 ⟨rfl, hb⟩
        replace HB := Lib.hid (pure_below HB.out hb)
        clear hb
        go_wp2
        go_ret
        exact ⟨rfl, HB.out⟩
    · have hf' : fitsU 2 u = false := by simpa using hf
      have e1 : putE 2 (fitsU 2 u) = 10 := by rw [hf']; decide
      rw [e1]
      have hw := fitsU_wd0 (W := 2) (by decide) HU.out hf'
      rw [HK0.out] at hw
      have hw : (2 : Int) < k0 := hw
      clear e1 hf hf' hO
      go_wp2_with fail
      go_at_call 16
      refine (mnworks_spec _).mono ?_
      rintro e w7 ⟨rfl, hb⟩
      replace HB := Lib.hid (pure_below HB.out hb)
      clear hb
      go_wp2
      go_ret
      exact ⟨rfl, HB.out⟩
  · have hsh : wrap64 (2 ^ (x % 4).toNat) = 4 := by rw [hx]; simp [wrap64]
    go_enter Tryz.func6, Tryz.ntmps6
    go_wp2_with fail
    go_at_call 17
    refine (bring_spec x 4 _ (by decide) (by decide)).mono ?_
    rintro e w1 ⟨rfl, rfl⟩
    go_wp2_with fail
    clear hsh hx
    go_at_call 19
    refine (code_spec 4 _).mono ?_
    rw [show codeW 4 = 2 from rfl, show codeE 4 = 0 from rfl]
    rintro e w1 ⟨rfl, rfl⟩
    go_wp2_with fail
    go_at_call 20
    refine (put_spec none 0 0 u 4 [] _ (Is.nil _ _) (by omega) (by omega) HU.out).mono ?_
    rintro e w1 ⟨A1, n1, c1, rfl, hO, hb⟩
    have HB := Lib.hid hb
    have HS1 := Lib.hid hb
    have HWS := Lib.hid (Nat.le_refl w.heap.size)
    clear hb
    go_wp2_with fail
    go_at_call 21
    refine (wof_is u k0 _ (by have := HU.out; omega) HK0.out).mono ?_
    rintro e w2 ⟨rfl, rfl⟩
    by_cases hf : fitsU 4 u = true
    · have e1 : putE 4 (fitsU 4 u) = 0 := by rw [hf]; decide
      have e2 : putB [] 4 u (fitsU (4 : Int).toNat u) = leBytes 4 u := by rw [show (4 : Int).toNat = 4 from rfl, hf]; rfl
      rw [e2] at hO
      rw [e1]
      obtain rfl : 4 = n1 := by rw [← hO.1, leBytes_length]
      have hul := fits_lt hf HU.out
      have hck0 := rt_u (W := 4) (U := u) (c := 10) (by decide) (by decide) (by decide) (by decide) hul
      rw [HK0.out] at hck0
      have HCK := Lib.hid (show mnCheck (rtDoc 4 u 10) 1 = if k0 < (4 : Int) then (0, 10) else (0, 0) from hck0)
      have HO := Lib.hid hO
      have HBS := Lib.hid (show w.heap.size ≤ (w1.alloc (.cells #[.int .u8 10, .int .u8 4] 5)).heap.size by have := HB.out.size; simp; omega)
      clear e1 e2 hO hul hck0 hf
      obtain ⟨k, rfl⟩ : ∃ k, k = k0 := ⟨_, rfl⟩
      go_wp2_with (at_builtin; refine wpl_app _ rfl (.tmp 54) (.tmp 62) _ rfl 5 _ 1 1 Tryz.underlying22 info_b rfl (by omega) bc_len bc_one _ _ _ _ _ rfl (HO.out.pure ((Below.refl _ _).alloc (Nat.le_refl _) _)) _ _ _ _ rfl (isb_vs_ (vs := #[.int .u8 10, .int .u8 4]) (n := 2) (by simp) (by rfl) (by rfl)) (by omega) HBS.out ?_; intro A4 c4 w4 hown hfr hat; have HO4 := Lib.hid (show OwnB w4 _ A4 (4 + 2) c4 (rtDoc 4 u 10) from hown); replace HB := Lib.hid (below_fr (HB.out.alloc HB.out.size _) hfr (by rintro j ⟨ad, e, rfl⟩; exact Nat.le_trans HWS.out (HO.out.addr ad e).2.1)); clear hown hfr hat)
      go_wp2_with fail
      go_at_call 14
      by_cases hlt : k < 4
      · have hck := HCK.out
        rw [if_pos hlt] at hck
        refine (check_is A4 (4 + 2) c4 1 0 10 _ _ HO4.out.is HO4.out.cap.1 (by omega) (by decide) hck).mono ?_
        rintro e w5 ⟨rfl, hb⟩
        replace HB := Lib.hid (pure_below HB.out hb)
        clear hb hck
        go_wp2_with fail
        go_at_call 16
        refine (mnworks_spec _).mono ?_
        rintro e w7 ⟨rfl, hb⟩
        replace HB := Lib.hid (pure_below HB.out hb)
        clear hb
        go_wp2
        go_ret
        exact ⟨rfl, HB.out⟩
      · have hck := HCK.out
        rw [if_neg hlt] at hck
        have hlt2 : decide (k < 4) = false := decide_eq_false hlt
        refine (check_is A4 (4 + 2) c4 1 0 0 _ _ HO4.out.is HO4.out.cap.1 (by omega) (by decide) hck).mono ?_
        rintro e w5 ⟨rfl, hb⟩
        replace HB := Lib.hid (pure_below HB.out hb)
        clear hb hck hlt
        go_wp2_with fail
        go_at_call 16
        refine (mnworks_spec _).mono ?_
        rintro e w7 ⟨rfl, hb⟩
        replace HB := Lib.hid (pure_below HB.out hb)
        clear hb
        go_wp2
        go_ret
        exact ⟨rfl, HB.out⟩
    · have hf' : fitsU 4 u = false := by simpa using hf
      have e1 : putE 4 (fitsU 4 u) = 10 := by rw [hf']; decide
      rw [e1]
      have hw := fitsU_wd0 (W := 4) (by decide) HU.out hf'
      rw [HK0.out] at hw
      have hw : (4 : Int) < k0 := hw
      clear e1 hf hf' hO
      go_wp2_with fail
      go_at_call 16
      refine (mnworks_spec _).mono ?_
      rintro e w7 ⟨rfl, hb⟩
      replace HB := Lib.hid (pure_below HB.out hb)
      clear hb
      go_wp2
      go_ret
      exact ⟨rfl, HB.out⟩
  · have hsh : wrap64 (2 ^ (x % 4).toNat) = 8 := by rw [hx]; simp [wrap64]
    go_enter Tryz.func6, Tryz.ntmps6
    go_wp2_with fail
    go_at_call 17
    refine (bring_spec x 4 _ (by decide) (by decide)).mono ?_
    rintro e w1 ⟨rfl, rfl⟩
    go_wp2_with fail
    clear hsh hx
    go_at_call 19
    refine (code_spec 8 _).mono ?_
    rw [show codeW 8 = 3 from rfl, show codeE 8 = 0 from rfl]
    rintro e w1 ⟨rfl, rfl⟩
    go_wp2_with fail
    go_at_call 20
    refine (put_spec none 0 0 u 8 [] _ (Is.nil _ _) (by omega) (by omega) HU.out).mono ?_
    rintro e w1 ⟨A1, n1, c1, rfl, hO, hb⟩
    have HB := Lib.hid hb
    have HS1 := Lib.hid hb
    have HWS := Lib.hid (Nat.le_refl w.heap.size)
    clear hb
    go_wp2_with fail
    go_at_call 21
    refine (wof_is u k0 _ (by have := HU.out; omega) HK0.out).mono ?_
    rintro e w2 ⟨rfl, rfl⟩
    by_cases hf : fitsU 8 u = true
    · have e1 : putE 8 (fitsU 8 u) = 0 := by rw [hf]; decide
      have e2 : putB [] 8 u (fitsU (8 : Int).toNat u) = leBytes 8 u := by rw [show (8 : Int).toNat = 8 from rfl, hf]; rfl
      rw [e2] at hO
      rw [e1]
      obtain rfl : 8 = n1 := by rw [← hO.1, leBytes_length]
      have hul := fits_lt hf HU.out
      have hck0 := rt_u (W := 8) (U := u) (c := 11) (by decide) (by decide) (by decide) (by decide) hul
      rw [HK0.out] at hck0
      have HCK := Lib.hid (show mnCheck (rtDoc 8 u 11) 1 = if k0 < (8 : Int) then (0, 10) else (0, 0) from hck0)
      have HO := Lib.hid hO
      have HBS := Lib.hid (show w.heap.size ≤ (w1.alloc (.cells #[.int .u8 11, .int .u8 8] 5)).heap.size by have := HB.out.size; simp; omega)
      clear e1 e2 hO hul hck0 hf
      obtain ⟨k, rfl⟩ : ∃ k, k = k0 := ⟨_, rfl⟩
      go_wp2_with (at_builtin; refine wpl_app _ rfl (.tmp 54) (.tmp 62) _ rfl 5 _ 1 1 Tryz.underlying22 info_b rfl (by omega) bc_len bc_one _ _ _ _ _ rfl (HO.out.pure ((Below.refl _ _).alloc (Nat.le_refl _) _)) _ _ _ _ rfl (isb_vs_ (vs := #[.int .u8 11, .int .u8 8]) (n := 2) (by simp) (by rfl) (by rfl)) (by omega) HBS.out ?_; intro A4 c4 w4 hown hfr hat; have HO4 := Lib.hid (show OwnB w4 _ A4 (8 + 2) c4 (rtDoc 8 u 11) from hown); replace HB := Lib.hid (below_fr (HB.out.alloc HB.out.size _) hfr (by rintro j ⟨ad, e, rfl⟩; exact Nat.le_trans HWS.out (HO.out.addr ad e).2.1)); clear hown hfr hat)
      go_wp2_with fail
      go_at_call 14
      by_cases hlt : k < 8
      · have hck := HCK.out
        rw [if_pos hlt] at hck
        refine (check_is A4 (8 + 2) c4 1 0 10 _ _ HO4.out.is HO4.out.cap.1 (by omega) (by decide) hck).mono ?_
        rintro e w5 ⟨rfl, hb⟩
        replace HB := Lib.hid (pure_below HB.out hb)
        clear hb hck
        go_wp2_with fail
        go_at_call 16
        refine (mnworks_spec _).mono ?_
        rintro e w7 ⟨rfl, hb⟩
        replace HB := Lib.hid (pure_below HB.out hb)
        clear hb
        go_wp2
        go_ret
        exact ⟨rfl, HB.out⟩
      · have hck := HCK.out
        rw [if_neg hlt] at hck
        have hlt2 : decide (k < 8) = false := decide_eq_false hlt
        refine (check_is A4 (8 + 2) c4 1 0 0 _ _ HO4.out.is HO4.out.cap.1 (by omega) (by decide) hck).mono ?_
        rintro e w5 ⟨rfl, hb⟩
        replace HB := Lib.hid (pure_below HB.out hb)
        clear hb hck hlt
        go_wp2_with fail
        go_at_call 16
        refine (mnworks_spec _).mono ?_
        rintro e w7 ⟨rfl, hb⟩
        replace HB := Lib.hid (pure_below HB.out hb)
        clear hb
        go_wp2
        go_ret
        exact ⟨rfl, HB.out⟩
    · have hf' : fitsU 8 u = false := by simpa using hf
      have e1 : putE 8 (fitsU 8 u) = 10 := by rw [hf']; decide
      rw [e1]
      have hw := fitsU_wd0 (W := 8) (by decide) HU.out hf'
      rw [HK0.out] at hw
      have hw : (8 : Int) < k0 := hw
      clear e1 hf hf' hO
      go_wp2_with fail
      go_at_call 16
      refine (mnworks_spec _).mono ?_
      rintro e w7 ⟨rfl, hb⟩
      replace HB := Lib.hid (pure_below HB.out hb)
      clear hb
      go_wp2
      go_ret
      exact ⟨rfl, HB.out⟩
set_option maxRecDepth 100000 in
set_option maxHeartbeats 2000000 in
theorem minroots_i (u : Nat) (x : Int) (w : World) (hu : (u : Int) < 18446744073709551616) :
    Calls Tryz.prog 6 #[.int .u64 u, .int .i64 x, .bool true] w fun e w' => e = .returned (.bool true) ∧ Below w.heap.size w w' := by
  have HU := Lib.hid hu
  obtain ⟨k0, hk0⟩ : ∃ k, wdU u = k := ⟨_, rfl⟩
  have HK0 := Lib.hid hk0
  obtain ⟨k1, hk1⟩ : ∃ k, wdI (wrap64 u) = k := ⟨_, rfl⟩
  have HK1 := Lib.hid hk1
  clear hu hk0 hk1
  have h4 : x % 4 = 0 ∨ x % 4 = 1 ∨ x % 4 = 2 ∨ x % 4 = 3 := by omega
  rcases h4 with hx | hx | hx | hx
  · have hsh : wrap64 (2 ^ (x % 4).toNat) = 1 := by rw [hx]; simp [wrap64]
    go_enter Tryz.func6, Tryz.ntmps6
    go_wp2_with fail
    go_at_call 17
    refine (bring_spec x 4 _ (by decide) (by decide)).mono ?_
    rintro e w1 ⟨rfl, rfl⟩
    go_wp2_with fail
    clear hsh hx
    go_at_call 19
    refine (code_spec 1 _).mono ?_
    rw [show codeW 1 = 0 from rfl, show codeE 1 = 0 from rfl]
    rintro e w1 ⟨rfl, rfl⟩
    go_wp2_with fail
    go_at_call 20
    refine (put_spec none 0 0 u 1 [] _ (Is.nil _ _) (by omega) (by omega) HU.out).mono ?_
    rintro e w1 ⟨A1, n1, c1, rfl, hO, hb⟩
    have HB := Lib.hid hb
    have HS1 := Lib.hid hb
    have HWS := Lib.hid (Nat.le_refl w.heap.size)
    clear hb
    go_wp2_with fail
    go_at_call 21
    refine (wof_is u k0 _ (by have := HU.out; omega) HK0.out).mono ?_
    rintro e w2 ⟨rfl, rfl⟩
    clear hO
    go_wp2_with fail
    go_at_call 22
    refine (puti_spec none 0 0 1 (wrap64 u) [] _ (Is.nil _ _) (by omega) (by omega) (wrap64_rng u)).mono ?_
    rintro e w2 ⟨A1, n1, c1, rfl, hO, hb⟩
    replace HB := Lib.hid (pure_below HB.out hb)
    replace HWS := Lib.hid (show w.heap.size ≤ w1.heap.size from HS1.out.size)
    have HB2 := Lib.hid hb
    clear hb
    go_wp2_with fail
    go_at_call 23
    refine (wofi_is (wrap64 u) k1 _ (wrap64_rng u) HK1.out).mono ?_
    rintro e w3 ⟨rfl, rfl⟩
    by_cases hf : fitsI 1 (wrap64 u) = true
    · have e1 : putE 1 (fitsI 1 (wrap64 u)) = 0 := by rw [hf]; decide
      have e2 : putB [] 1 (wrap64 u % 18446744073709551616).toNat (fitsI (1 : Int).toNat (wrap64 u)) = leBytes 1 (wrap64 u % 18446744073709551616).toNat := by rw [show (1 : Int).toNat = 1 from rfl, hf]; rfl
      rw [e2] at hO
      rw [e1]
      obtain rfl : 1 = n1 := by rw [← hO.1, leBytes_length]
      have hck0 := rt_i (W := 1) (n := wrap64 u) (c := 4) (by decide) (by decide) (by decide) (by decide) hf (wrap64_rng u)
      rw [HK1.out] at hck0
      have HCK := Lib.hid (show mnCheck (rtDoc 1 (wrap64 u % 18446744073709551616).toNat 4) 1 = if k1 < (1 : Int) then (0, 10) else (0, 0) from hck0)
      have HO := Lib.hid hO
      have HBS := Lib.hid (show w1.heap.size ≤ (w2.alloc (.cells #[.int .u8 4, .int .u8 1] 5)).heap.size by have := HB2.out.size; simp; omega)
      clear e1 e2 hO hck0 hf
      obtain ⟨k, rfl⟩ : ∃ k, k = k1 := ⟨_, rfl⟩
      go_wp2_with (at_builtin; refine wpl_app _ rfl (.tmp 54) (.tmp 62) _ rfl 5 _ 1 1 Tryz.underlying22 info_b rfl (by omega) bc_len bc_one _ _ _ _ _ rfl (HO.out.pure ((Below.refl _ _).alloc (Nat.le_refl _) _)) _ _ _ _ rfl (isb_vs_ (vs := #[.int .u8 4, .int .u8 1]) (n := 2) (by simp) (by rfl) (by rfl)) (by omega) HBS.out ?_; intro A4 c4 w4 hown hfr hat; have HO4 := Lib.hid (show OwnB w4 _ A4 (1 + 2) c4 (rtDoc 1 (wrap64 u % 18446744073709551616).toNat 4) from hown); replace HB := Lib.hid (below_fr (HB.out.alloc HB.out.size _) hfr (by rintro j ⟨ad, e, rfl⟩; exact Nat.le_trans HWS.out (HO.out.addr ad e).2.1)); clear hown hfr hat)
      go_wp2_with fail
      go_at_call 14
      by_cases hlt : k < 1
      · have hck := HCK.out
        rw [if_pos hlt] at hck
        refine (check_is A4 (1 + 2) c4 1 0 10 _ _ HO4.out.is HO4.out.cap.1 (by omega) (by decide) hck).mono ?_
        rintro e w5 ⟨rfl, hb⟩
        replace HB := Lib.hid (pure_below HB.out hb)
        clear hb hck
        go_wp2_with fail
        go_at_call 16
        refine (mnworks_spec _).mono ?_
        rintro e w7 ⟨rfl, hb⟩
        replace HB := Lib.hid (pure_below HB.out hb)
        clear hb
        go_wp2
        go_ret
        exact ⟨rfl, HB.out⟩
      · have hck := HCK.out
        rw [if_neg hlt] at hck
        have hlt2 : decide (k < 1) = false := decide_eq_false hlt
        refine (check_is A4 (1 + 2) c4 1 0 0 _ _ HO4.out.is HO4.out.cap.1 (by omega) (by decide) hck).mono ?_
        rintro e w5 ⟨rfl, hb⟩
        replace HB := Lib.hid (pure_below HB.out hb)
        clear hb hck hlt
        go_wp2_with fail
        go_at_call 16
        refine (mnworks_spec _).mono ?_
        rintro e w7 ⟨rfl, hb⟩
        replace HB := Lib.hid (pure_below HB.out hb)
        clear hb
        go_wp2
        go_ret
        exact ⟨rfl, HB.out⟩
    · have hf' : fitsI 1 (wrap64 u) = false := by simpa using hf
      have e1 : putE 1 (fitsI 1 (wrap64 u)) = 10 := by rw [hf']; decide
      rw [e1]
      have hw := fitsI_wd0 (W := 1) (by decide) (wrap64_rng u) hf'
      rw [HK1.out] at hw
      have hw : (1 : Int) < k1 := hw
      clear e1 hf hf' hO
      go_wp2_with fail
      go_at_call 16
      refine (mnworks_spec _).mono ?_
      rintro e w7 ⟨rfl, hb⟩
      replace HB := Lib.hid (pure_below HB.out hb)
      clear hb
      go_wp2
      go_ret
      exact ⟨rfl, HB.out⟩
  · have hsh : wrap64 (2 ^ (x % 4).toNat) = 2 := by rw [hx]; simp [wrap64]
    go_enter Tryz.func6, Tryz.ntmps6
    go_wp2_with fail
    go_at_call 17
    refine (bring_spec x 4 _ (by decide) (by decide)).mono ?_
    rintro e w1 ⟨rfl, rfl⟩
    go_wp2_with fail
    clear hsh hx
    go_at_call 19
    refine (code_spec 2 _).mono ?_
    rw [show codeW 2 = 1 from rfl, show codeE 2 = 0 from rfl]
    rintro e w1 ⟨rfl, rfl⟩
    go_wp2_with fail
    go_at_call 20
    refine (put_spec none 0 0 u 2 [] _ (Is.nil _ _) (by omega) (by omega) HU.out).mono ?_
    rintro e w1 ⟨A1, n1, c1, rfl, hO, hb⟩
    have HB := Lib.hid hb
    have HS1 := Lib.hid hb
    have HWS := Lib.hid (Nat.le_refl w.heap.size)
    clear hb
    go_wp2_with fail
    go_at_call 21
    refine (wof_is u k0 _ (by have := HU.out; omega) HK0.out).mono ?_
    rintro e w2 ⟨rfl, rfl⟩
    clear hO
    go_wp2_with fail
    go_at_call 22
    refine (puti_spec none 0 0 2 (wrap64 u) [] _ (Is.nil _ _) (by omega) (by omega) (wrap64_rng u)).mono ?_
    rintro e w2 ⟨A1, n1, c1, rfl, hO, hb⟩
    replace HB := Lib.hid (pure_below HB.out hb)
    replace HWS := Lib.hid (show w.heap.size ≤ w1.heap.size from HS1.out.size)
    have HB2 := Lib.hid hb
    clear hb
    go_wp2_with fail
    go_at_call 23
    refine (wofi_is (wrap64 u) k1 _ (wrap64_rng u) HK1.out).mono ?_
    rintro e w3 ⟨rfl, rfl⟩
    by_cases hf : fitsI 2 (wrap64 u) = true
    · have e1 : putE 2 (fitsI 2 (wrap64 u)) = 0 := by rw [hf]; decide
      have e2 : putB [] 2 (wrap64 u % 18446744073709551616).toNat (fitsI (2 : Int).toNat (wrap64 u)) = leBytes 2 (wrap64 u % 18446744073709551616).toNat := by rw [show (2 : Int).toNat = 2 from rfl, hf]; rfl
      rw [e2] at hO
      rw [e1]
      obtain rfl : 2 = n1 := by rw [← hO.1, leBytes_length]
      have hck0 := rt_i (W := 2) (n := wrap64 u) (c := 5) (by decide) (by decide) (by decide) (by decide) hf (wrap64_rng u)
      rw [HK1.out] at hck0
      have HCK := Lib.hid (show mnCheck (rtDoc 2 (wrap64 u % 18446744073709551616).toNat 5) 1 = if k1 < (2 : Int) then (0, 10) else (0, 0) from hck0)
      have HO := Lib.hid hO
      have HBS := Lib.hid (show w1.heap.size ≤ (w2.alloc (.cells #[.int .u8 5, .int .u8 2] 5)).heap.size by have := HB2.out.size; simp; omega)
      clear e1 e2 hO hck0 hf
      obtain ⟨k, rfl⟩ : ∃ k, k = k1 := ⟨_, rfl⟩
      go_wp2_with (at_builtin; refine wpl_app _ rfl (.tmp 54) (.tmp 62) _ rfl 5 _ 1 1 Tryz.underlying22 info_b rfl (by omega) bc_len bc_one _ _ _ _ _ rfl (HO.out.pure ((Below.refl _ _).alloc (Nat.le_refl _) _)) _ _ _ _ rfl (isb_vs_ (vs := #[.int .u8 5, .int .u8 2]) (n := 2) (by simp) (by rfl) (by rfl)) (by omega) HBS.out ?_; intro A4 c4 w4 hown hfr hat; have HO4 := Lib.hid (show OwnB w4 _ A4 (2 + 2) c4 (rtDoc 2 (wrap64 u % 18446744073709551616).toNat 5) from hown); replace HB := Lib.hid (below_fr (HB.out.alloc HB.out.size _) hfr (by rintro j ⟨ad, e, rfl⟩; exact Nat.le_trans HWS.out (HO.out.addr ad e).2.1)); clear hown hfr hat)
      go_wp2_with fail
      go_at_call 14
      by_cases hlt : k < 2
      · have hck := HCK.out
        rw [if_pos hlt] at hck
        refine (check_is A4 (2 + 2) c4 1 0 10 _ _ HO4.out.is HO4.out.cap.1 (by omega) (by decide) hck).mono ?_
        rintro e w5 ⟨rfl, hb⟩
        replace HB := Lib.hid (pure_below HB.out hb)
        clear hb hck
        go_wp2_with fail
        go_at_call 16
        refine (mnworks_spec _).mono ?_
        rintro e w7 ⟨rfl, hb⟩
        replace HB := Lib.hid (pure_below HB.out hb)
        clear hb
        go_wp2
        go_ret
        exact ⟨rfl, HB.out⟩
      · have hck := HCK.out
        rw [if_neg hlt] at hck
        have hlt2 : decide (k < 2) = false := decide_eq_false hlt
        refine (check_is A4 (2 + 2) c4 1 0 0 _ _ HO4.out.is HO4.out.cap.1 (by omega) (by decide) hck).mono ?_
        rintro e w5 ⟨rfl, hb⟩
        replace HB := Lib.hid (pure_below HB.out hb)
        clear hb hck hlt
        go_wp2_with fail
        go_at_call 16
        refine (mnworks_spec _).mono ?_
        rintro e w7 ⟨rfl, hb⟩
        replace HB := Lib.hid (pure_below HB.out hb)
        clear hb
        go_wp2
        go_ret
        exact ⟨rfl, HB.out⟩
    · have hf' : fitsI 2 (wrap64 u) = false := by simpa using hf
      have e1 : putE 2 (fitsI 2 (wrap64 u)) = 10 := by rw [hf']; decide
      rw [e1]
      have hw := fitsI_wd0 (W := 2) (by decide) (wrap64_rng u) hf'
      rw [HK1.out] at hw
      have hw : (2 : Int) < k1 := hw
      clear e1 hf hf' hO
      go_wp2_with fail
      go_at_call 16
      refine (mnworks_spec _).mono ?_
      rintro e w7 ⟨rfl, hb⟩
      replace HB := Lib.hid (pure_below HB.out hb)
      clear hb
      go_wp2
      go_ret
      exact ⟨rfl, HB.out⟩
  · have hsh : wrap64 (2 ^ (x % 4).toNat) = 4 := by rw [hx]; simp [wrap64]
    go_enter Tryz.func6, Tryz.ntmps6
    go_wp2_with fail
    go_at_call 17
    refine (bring_spec x 4 _ (by decide) (by decide)).mono ?_
    rintro e w1 ⟨rfl, rfl⟩
    go_wp2_with fail
    clear hsh hx
    go_at_call 19
    refine (code_spec 4 _).mono ?_
    rw [show codeW 4 = 2 from rfl, show codeE 4 = 0 from rfl]
    rintro e w1 ⟨rfl, rfl⟩
    go_wp2_with fail
    go_at_call 20
    refine (put_spec none 0 0 u 4 [] _ (Is.nil _ _) (by omega) (by omega) HU.out).mono ?_
    rintro e w1 ⟨A1, n1, c1, rfl, hO, hb⟩
    have HB := Lib.hid hb
    have HS1 := Lib.hid hb
    have HWS := Lib.hid (Nat.le_refl w.heap.size)
    clear hb
    go_wp2_with fail
    go_at_call 21
    refine (wof_is u k0 _ (by have := HU.out; omega) HK0.out).mono ?_
    rintro e w2 ⟨rfl, rfl⟩
    clear hO
    go_wp2_with fail
    go_at_call 22
    refine (puti_spec none 0 0 4 (wrap64 u) [] _ (Is.nil _ _) (by omega) (by omega) (wrap64_rng u)).mono ?_
    rintro e w2 ⟨A1, n1, c1, rfl, hO, hb⟩
    replace HB := Lib.hid (pure_below HB.out hb)
    replace HWS := Lib.hid (show w.heap.size ≤ w1.heap.size from HS1.out.size)
    have HB2 := Lib.hid hb
    clear hb
    go_wp2_with fail
    go_at_call 23
    refine (wofi_is (wrap64 u) k1 _ (wrap64_rng u) HK1.out).mono ?_
    rintro e w3 ⟨rfl, rfl⟩
    by_cases hf : fitsI 4 (wrap64 u) = true
    · have e1 : putE 4 (fitsI 4 (wrap64 u)) = 0 := by rw [hf]; decide
      have e2 : putB [] 4 (wrap64 u % 18446744073709551616).toNat (fitsI (4 : Int).toNat (wrap64 u)) = leBytes 4 (wrap64 u % 18446744073709551616).toNat := by rw [show (4 : Int).toNat = 4 from rfl, hf]; rfl
      rw [e2] at hO
      rw [e1]
      obtain rfl : 4 = n1 := by rw [← hO.1, leBytes_length]
      have hck0 := rt_i (W := 4) (n := wrap64 u) (c := 6) (by decide) (by decide) (by decide) (by decide) hf (wrap64_rng u)
      rw [HK1.out] at hck0
      have HCK := Lib.hid (show mnCheck (rtDoc 4 (wrap64 u % 18446744073709551616).toNat 6) 1 = if k1 < (4 : Int) then (0, 10) else (0, 0) from hck0)
      have HO := Lib.hid hO
      have HBS := Lib.hid (show w1.heap.size ≤ (w2.alloc (.cells #[.int .u8 6, .int .u8 4] 5)).heap.size by have := HB2.out.size; simp; omega)
      clear e1 e2 hO hck0 hf
      obtain ⟨k, rfl⟩ : ∃ k, k = k1 := ⟨_, rfl⟩
      go_wp2_with (at_builtin; refine wpl_app _ rfl (.tmp 54) (.tmp 62) _ rfl 5 _ 1 1 Tryz.underlying22 info_b rfl (by omega) bc_len bc_one _ _ _ _ _ rfl (HO.out.pure ((Below.refl _ _).alloc (Nat.le_refl _) _)) _ _ _ _ rfl (isb_vs_ (vs := #[.int .u8 6, .int .u8 4]) (n := 2) (by simp) (by rfl) (by rfl)) (by omega) HBS.out ?_; intro A4 c4 w4 hown hfr hat; have HO4 := Lib.hid (show OwnB w4 _ A4 (4 + 2) c4 (rtDoc 4 (wrap64 u % 18446744073709551616).toNat 6) from hown); replace HB := Lib.hid (below_fr (HB.out.alloc HB.out.size _) hfr (by rintro j ⟨ad, e, rfl⟩; exact Nat.le_trans HWS.out (HO.out.addr ad e).2.1)); clear hown hfr hat)
      go_wp2_with fail
      go_at_call 14
      by_cases hlt : k < 4
      · have hck := HCK.out
        rw [if_pos hlt] at hck
        refine (check_is A4 (4 + 2) c4 1 0 10 _ _ HO4.out.is HO4.out.cap.1 (by omega) (by decide) hck).mono ?_
        rintro e w5 ⟨rfl, hb⟩
        replace HB := Lib.hid (pure_below HB.out hb)
        clear hb hck
        go_wp2_with fail
        go_at_call 16
        refine (mnworks_spec _).mono ?_
        rintro e w7 ⟨rfl, hb⟩
        replace HB := Lib.hid (pure_below HB.out hb)
        clear hb
        go_wp2
        go_ret
        exact ⟨rfl, HB.out⟩
      · have hck := HCK.out
        rw [if_neg hlt] at hck
        have hlt2 : decide (k < 4) = false := decide_eq_false hlt
        refine (check_is A4 (4 + 2) c4 1 0 0 _ _ HO4.out.is HO4.out.cap.1 (by omega) (by decide) hck).mono ?_
        rintro e w5 ⟨rfl, hb⟩
        replace HB := Lib.hid (pure_below HB.out hb)
        clear hb hck hlt
        go_wp2_with fail
        go_at_call 16
        refine (mnworks_spec _).mono ?_
        rintro e w7 ⟨rfl, hb⟩
        replace HB := Lib.hid (pure_below HB.out hb)
        clear hb
        go_wp2
        go_ret
        exact ⟨rfl, HB.out⟩
    · have hf' : fitsI 4 (wrap64 u) = false := by simpa using hf
      have e1 : putE 4 (fitsI 4 (wrap64 u)) = 10 := by rw [hf']; decide
      rw [e1]
      have hw := fitsI_wd0 (W := 4) (by decide) (wrap64_rng u) hf'
      rw [HK1.out] at hw
      have hw : (4 : Int) < k1 := hw
      clear e1 hf hf' hO
      go_wp2_with fail
      go_at_call 16
      refine (mnworks_spec _).mono ?_
      rintro e w7 ⟨rfl, hb⟩
      replace HB := Lib.hid (pure_below HB.out hb)
      clear hb
      go_wp2
      go_ret
      exact ⟨rfl, HB.out⟩
  · have hsh : wrap64 (2 ^ (x % 4).toNat) = 8 := by rw [hx]; simp [wrap64]
    go_enter Tryz.func6, Tryz.ntmps6
    go_wp2_with fail
    go_at_call 17
    refine (bring_spec x 4 _ (by decide) (by decide)).mono ?_
    rintro e w1 ⟨rfl, rfl⟩
    go_wp2_with fail
    clear hsh hx
    go_at_call 19
    refine (code_spec 8 _).mono ?_
    rw [show codeW 8 = 3 from rfl, show codeE 8 = 0 from rfl]
    rintro e w1 ⟨rfl, rfl⟩
    go_wp2_with fail
    go_at_call 20
    refine (put_spec none 0 0 u 8 [] _ (Is.nil _ _) (by omega) (by omega) HU.out).mono ?_
    rintro e w1 ⟨A1, n1, c1, rfl, hO, hb⟩
    have HB := Lib.hid hb
    have HS1 := Lib.hid hb
    have HWS := Lib.hid (Nat.le_refl w.heap.size)
    clear hb
    go_wp2_with fail
    go_at_call 21
    refine (wof_is u k0 _ (by have := HU.out; omega) HK0.out).mono ?_
    rintro e w2 ⟨rfl, rfl⟩
    clear hO
    go_wp2_with fail
    go_at_call 22
    refine (puti_spec none 0 0 8 (wrap64 u) [] _ (Is.nil _ _) (by omega) (by omega) (wrap64_rng u)).mono ?_
    rintro e w2 ⟨A1, n1, c1, rfl, hO, hb⟩
    replace HB := Lib.hid (pure_below HB.out hb)
    replace HWS := Lib.hid (show w.heap.size ≤ w1.heap.size from HS1.out.size)
    have HB2 := Lib.hid hb
    clear hb
    go_wp2_with fail
    go_at_call 23
    refine (wofi_is (wrap64 u) k1 _ (wrap64_rng u) HK1.out).mono ?_
    rintro e w3 ⟨rfl, rfl⟩
    by_cases hf : fitsI 8 (wrap64 u) = true
    · have e1 : putE 8 (fitsI 8 (wrap64 u)) = 0 := by rw [hf]; decide
      have e2 : putB [] 8 (wrap64 u % 18446744073709551616).toNat (fitsI (8 : Int).toNat (wrap64 u)) = leBytes 8 (wrap64 u % 18446744073709551616).toNat := by rw [show (8 : Int).toNat = 8 from rfl, hf]; rfl
      rw [e2] at hO
      rw [e1]
      obtain rfl : 8 = n1 := by rw [← hO.1, leBytes_length]
      have hck0 := rt_i (W := 8) (n := wrap64 u) (c := 7) (by decide) (by decide) (by decide) (by decide) hf (wrap64_rng u)
      rw [HK1.out] at hck0
      have HCK := Lib.hid (show mnCheck (rtDoc 8 (wrap64 u % 18446744073709551616).toNat 7) 1 = if k1 < (8 : Int) then (0, 10) else (0, 0) from hck0)
      have HO := Lib.hid hO
      have HBS := Lib.hid (show w1.heap.size ≤ (w2.alloc (.cells #[.int .u8 7, .int .u8 8] 5)).heap.size by have := HB2.out.size; simp; omega)
      clear e1 e2 hO hck0 hf
      obtain ⟨k, rfl⟩ : ∃ k, k = k1 := ⟨_, rfl⟩
      go_wp2_with (at_builtin; refine wpl_app _ rfl (.tmp 54) (.tmp 62) _ rfl 5 _ 1 1 Tryz.underlying22 info_b rfl (by omega) bc_len bc_one _ _ _ _ _ rfl (HO.out.pure ((Below.refl _ _).alloc (Nat.le_refl _) _)) _ _ _ _ rfl (isb_vs_ (vs := #[.int .u8 7, .int .u8 8]) (n := 2) (by simp) (by rfl) (by rfl)) (by omega) HBS.out ?_; intro A4 c4 w4 hown hfr hat; have HO4 := Lib.hid (show OwnB w4 _ A4 (8 + 2) c4 (rtDoc 8 (wrap64 u % 18446744073709551616).toNat 7) from hown); replace HB := Lib.hid (below_fr (HB.out.alloc HB.out.size _) hfr (by rintro j ⟨ad, e, rfl⟩; exact Nat.le_trans HWS.out (HO.out.addr ad e).2.1)); clear hown hfr hat)
      go_wp2_with fail
      go_at_call 14
      by_cases hlt : k < 8
      · have hck := HCK.out
        rw [if_pos hlt] at hck
        refine (check_is A4 (8 + 2) c4 1 0 10 _ _ HO4.out.is HO4.out.cap.1 (by omega) (by decide) hck).mono ?_
        rintro e w5 ⟨rfl, hb⟩
        replace HB := Lib.hid (pure_below HB.out hb)
        clear hb hck
        go_wp2_with fail
        go_at_call 16
        refine (mnworks_spec _).mono ?_
        rintro e w7 ⟨rfl, hb⟩
        replace HB := Lib.hid (pure_below HB.out hb)
        clear hb
        go_wp2
        go_ret
        exact ⟨rfl, HB.out⟩
      · have hck := HCK.out
        rw [if_neg hlt] at hck
        have hlt2 : decide (k < 8) = false := decide_eq_false hlt
        refine (check_is A4 (8 + 2) c4 1 0 0 _ _ HO4.out.is HO4.out.cap.1 (by omega) (by decide) hck).mono ?_
        rintro e w5 ⟨rfl, hb⟩
        replace HB := Lib.hid (pure_below HB.out hb)
        clear hb hck hlt
        go_wp2_with fail
        go_at_call 16
        refine (mnworks_spec _).mono ?_
        rintro e w7 ⟨rfl, hb⟩
        replace HB := Lib.hid (pure_below HB.out hb)
        clear hb
        go_wp2
        go_ret
        exact ⟨rfl, HB.out⟩
    · have hf' : fitsI 8 (wrap64 u) = false := by simpa using hf
      have e1 : putE 8 (fitsI 8 (wrap64 u)) = 10 := by rw [hf']; decide
      rw [e1]
      have hw := fitsI_wd0 (W := 8) (by decide) (wrap64_rng u) hf'
      rw [HK1.out] at hw
      have hw : (8 : Int) < k1 := hw
      clear e1 hf hf' hO
      go_wp2_with fail
      go_at_call 16
      refine (mnworks_spec _).mono ?_
      rintro e w7 ⟨rfl, hb⟩
      replace HB := Lib.hid (pure_below HB.out hb)
      clear hb
      go_wp2
      go_ret
      exact ⟨rfl, HB.out⟩
theorem minroots_spec (u : Nat) (x : Int) (b : Bool) (w : World) (hu : (u : Int) < 18446744073709551616) :
    Calls Tryz.prog 6 #[.int .u64 u, .int .i64 x, .bool b] w fun e w' => e = .returned (.bool true) ∧ Below w.heap.size w w' := by
  cases b with
  | true => exact minroots_i u x w hu
  | false => exact minroots_u u x w hu
end Go.Proofs.YtejalfjeihlpeaaGreat
