/-
  Package le: the property LeLonger.
-/
import Derived.Test.YtbgakgljgdiimaaLeRow
import Derived.Test.YtbgakgljgdiimaaLeP
namespace Go.Proofs.Ytbgakgljgdiimaa
open Go.RowKit Go.Acc

theorem longer_u {y i u : Nat} (h : u < 2 ^ (8 * y)) (hi : y ≤ i) : leBytes (i + 1) u = leBytes i u ++ [0] := by
  rw [leBytes_succ, Nat.div_eq_of_lt (Nat.lt_of_lt_of_le h (Nat.pow_le_pow_right (by omega) (by omega)))]
  rfl
theorem fitsU_le {y z u : Nat} (h : fitsU y u = true) (hu : (u : Int) < 18446744073709551616) (hy : y ≤ z) : fitsU z u = true := fitsU_of (Nat.lt_of_lt_of_le (fits_lt h hu) (Nat.pow_le_pow_right (by omega) (by omega)))
theorem fitsI_le {y z : Nat} {n : Int} (h : fitsI y n = true) (h1 : isW (y : Int) = true) (h2 : isW (z : Int) = true) (hy : y ≤ z) : fitsI z n = true := by
  rw [fitsI_iff] at h ⊢
  rcases w_cases h1 with rfl | rfl | rfl | rfl <;> rcases w_cases h2 with rfl | rfl | rfl | rfl <;> first | omega | (right; simp only [Nat.reduceMul, Nat.reduceSub, Int.reducePow] at *; omega)
/-- The byte that goes on a signed number. -/
def sgB (n : Int) : UInt8 := if n < 0 then 255 else 0
theorem wrap_mod (u : Nat) (hu : (u : Int) < 18446744073709551616) : (wrap64 (u : Int) % 18446744073709551616).toNat = u := by unfold wrap64; omega
theorem longer_i {y i u : Nat} {n : Int} (hn : n = wrap64 u) (hu : (u : Int) < 18446744073709551616) (hy : isW (y : Int) = true) (h : fitsI y n = true) (hi : y ≤ i) (h8 : i < 8) : leBytes (i + 1) u = leBytes i u ++ [sgB n] := by
  rw [leBytes_succ]
  congr 2
  apply UInt8.toNat_inj.1
  rw [UInt8.toNat_ofNat']
  have hn' : n = u ∧ (u : Int) < 9223372036854775808 ∨ n = u - 18446744073709551616 ∧ 9223372036854775808 ≤ (u : Int) := by unfold wrap64 at hn; omega
  rw [fitsI_iff] at h
  unfold sgB
  have hi' : i = 1 ∨ i = 2 ∨ i = 3 ∨ i = 4 ∨ i = 5 ∨ i = 6 ∨ i = 7 := by have := isW_iff.1 hy; omega
  rcases w_cases hy with rfl | rfl | rfl | rfl <;> rcases hi' with rfl | rfl | rfl | rfl | rfl | rfl | rfl <;> first | (exfalso; omega) | (simp only [Nat.reduceMul, Nat.reduceSub, Nat.reducePow, Int.reducePow] at *; split <;> simp <;> omega)

theorem sg_byte {n : Int} (h : -9223372036854775808 ≤ n ∧ n ≤ 9223372036854775807) : n / 9223372036854775808 % 256 = ((sgB n).toNat : Int) := by
  unfold sgB
  split <;> simp <;> omega
theorem putB_yes {y u : Nat} {b : Bool} (h : isW (y : Int) = true) (hb : b = true) : putB [] y u b = leBytes y u := by subst hb; simp [putB, h]
theorem putE_yes {y : Nat} {b : Bool} (h : isW (y : Int) = true) (hb : b = true) : putE y b = 0 := by subst hb; simp [putE, h]
theorem putB_no {l : List UInt8} {x : Int} {u : Nat} {b : Bool} (hb : b = false) : putB l x u b = [] := by subst hb; simp [putB]
theorem putE_no {y : Nat} {b : Bool} (h : isW (y : Int) = true) (hb : b = false) : putE y b = 10 := by subst hb; simp [putE, h]
/-- What holds in the loops: a grows to the bytes of the wider form, d is the wider form. -/
def Grows (w : World) (V Y u : Nat) (AD : Option Addr) (a i : Value) (wr : World) : Prop :=
  ∃ (j : Nat) (A0 : Option Addr) (c : Nat), V ≤ j ∧ j ≤ Y ∧ i = .int .i64 j ∧ a = .slice A0 j c ∧ OwnB wr w.heap.size A0 j c (leBytes j u) ∧ Below w.heap.size w wr ∧ IsB wr AD Y (leBytes Y u) ∧ (∀ ad ad0, AD = some ad → A0 = some ad0 → ad0.block ≠ ad.block)
theorem wrap64_rng (u : Int) : -9223372036854775808 ≤ wrap64 u ∧ wrap64 u ≤ 9223372036854775807 := by unfold wrap64; omega
theorem grows_below {w wr w4 : World} {o : Obj} {A0 : Option Addr} {j c0 : Nat} {l : List UInt8} (hB : Below w.heap.size w wr) (hO : OwnB wr w.heap.size A0 j c0 l) (hF : Fr (fun k => ∃ ad, A0 = some ad ∧ k = ad.block) (wr.alloc o) w4) : Below w.heap.size w w4 := by
  refine below_fr (hB.alloc hB.size o) hF ?_
  rintro k ⟨ad, h, rfl⟩
  exact (hO.addr ad h).2.1
theorem grows_is {wr w4 : World} {o : Obj} {A0 AD : Option Addr} {n : Nat} {l : List UInt8} (hD : IsB wr AD n l) (hN : ∀ ad ad0, AD = some ad → A0 = some ad0 → ad0.block ≠ ad.block) (hF : Fr (fun k => ∃ ad, A0 = some ad ∧ k = ad.block) (wr.alloc o) w4) : IsB w4 AD n l := by
  refine (hD.alloc o).fr hF ?_
  rintro ad h ⟨ad0, h0, e⟩
  exact hN ad ad0 h h0 e.symm
theorem grows_ne {wr : World} {o : Obj} {A0 A1 AD : Option Addr} {n : Nat} {l : List UInt8} (hD : IsB wr AD n l) (hn : 0 < n) (hN : ∀ ad ad0, AD = some ad → A0 = some ad0 → ad0.block ≠ ad.block)
    (hA : A1.map (·.block) = A0.map (·.block) ∨ A1.map (·.block) = some (wr.alloc o).heap.size) : ∀ ad ad1, AD = some ad → A1 = some ad1 → ad1.block ≠ ad.block := by
  rintro ad ad1 h rfl
  rcases hA with e | e
  · cases A0 with
    | none => simp at e
    | some ad0 =>
      have e : ad1.block = ad0.block := by simpa using e
      rw [e]
      exact hN ad ad0 h rfl
  · obtain ⟨b, off, e', hb⟩ := hD.some_ bc_len (by omega) hn
    rw [h] at e'
    injection e' with e'
    have e : ad1.block = wr.heap.size + 1 := by simpa using e
    rw [e, e']
    simp only
    omega
set_option maxHeartbeats 1000000 in
theorem lelonger_spec (v x : Int) (u : Nat) (w : World) (hu : (u : Int) < 18446744073709551616) :
    Calls Try.prog 8 #[.int .i64 v, .int .i64 x, .int .u64 u] w fun e w' => e = .returned (.bool true) ∧ Below w.heap.size w w' := by
  have HU := Shut.mk hu
  clear hu
  obtain ⟨V0, hV⟩ : ∃ V, wd v = V := ⟨_, rfl⟩
  obtain ⟨Y0, hY⟩ : ∃ V, wd x = V := ⟨_, rfl⟩
  have hv := wd_isW v
  have hy := wd_isW x
  rw [hV] at hv
  rw [hY] at hy
  have HV := Shut.mk hV
  have HY := Shut.mk hY
  have WV := Shut.mk hv
  have WY := Shut.mk hy
  clear hV hY hv hy
  rcases Nat.lt_trichotomy V0 Y0 with hlt | rfl | hlt
  · have hle : V0 ≤ Y0 := by omega
    go_enter Try.func8, Try.ntmps8
    go_wp2_with fail
    go_at_call 24
    refine (widen_spec v _).mono ?_
    rw [HV.out]
    rintro e w' ⟨rfl, rfl⟩
    go_wp2_with fail
    go_at_call 24
    refine (widen_spec x _).mono ?_
    rw [HY.out]
    rintro e w' ⟨rfl, rfl⟩
    go_wp2_with fail
    go_at_call 24
    refine (widen_spec v _).mono ?_
    rw [HV.out]
    rintro e w' ⟨rfl, rfl⟩
    go_wp2_with fail
    go_at_call 24
    refine (widen_spec x _).mono ?_
    rw [HY.out]
    rintro e w' ⟨rfl, rfl⟩
    go_wp2_with fail
    have hv1 : 1 ≤ V0 := by have := isW_iff.1 WV.out; omega
    have hy8 : Y0 ≤ 8 := by have := isW_iff.1 WY.out; omega
    go_at_call 17
    refine (put_spec none 0 0 u V0 [] _ (Is.nil _ _) (by omega) (by omega) HU.out).mono ?_
    rintro e w2 ⟨AA, nA, cA, rfl, hOA, hb2⟩
    rw [Int.toNat_natCast] at hOA ⊢
    by_cases hfu : fitsU V0 u = true
    · have hg := fitsU_le hfu HU.out hle
      rw [putE_yes WV.out hfu]
      rw [putB_yes WV.out hfu] at hOA
      obtain rfl : V0 = nA := by rw [← hOA.1, leBytes_length]
      have HG := Shut.mk hg
      have HF := Shut.mk (fits_lt hfu HU.out)
      have HOA := Lib.hid hOA
      have HB := Lib.hid hb2
      clear hfu hg hOA hb2
      go_wp2_with fail
      go_at_call 17
      refine (put_spec none 0 0 u Y0 [] _ (Is.nil _ _) (by omega) (by omega) HU.out).mono ?_
      rintro e w3 ⟨AD, nD, cD, rfl, hOD, hb3⟩
      rw [Int.toNat_natCast] at hOD ⊢
      rw [putE_yes WY.out HG.out]
      rw [putB_yes WY.out HG.out] at hOD
      obtain rfl : Y0 = nD := by rw [← hOD.1, leBytes_length]
      have hne : ∀ ad ad0, AD = some ad → AA = some ad0 → ad0.block ≠ ad.block := by
        intro ad ad0 h h0
        have h1 := (HOA.out.addr ad0 h0).2.2
        have h2 := (hOD.addr ad h).2.1
        omega
      have HNE := Lib.hid hne
      have HOA := Lib.hid (HOA.out.pure hb3)
      have HOD := Lib.hid hOD.is
      have HB := Lib.hid (pure_below HB.out hb3)
      clear hOD hb3 hne
      go_wp2
      go_loopw [7, 11] (fun a i wr => Grows w V0 Y0 u AD a i wr) (fun _ i _ => Y0 - (intOf i).toNat)
      case atStart => exact ⟨V0, AA, cA, by omega, hle, rfl, rfl, HOA.out, HB.out, HOD.out, HNE.out⟩
      case round =>
        obtain ⟨j, A0, c0, hVj, hjY, rfl, rfl, hO, hB, hD, hN⟩ := hrel
        have HO := Lib.hid hO
        have HBr := Lib.hid hB
        have HD := Lib.hid hD
        have HN := Lib.hid hN
        clear hO hB hD hN HOA HOD HNE HB
        by_cases hjl : j < Y0
        · first
            | (exfalso; omega)
            | (go_wp2_with (at_builtin; refine wpl_app _ rfl (.tmp 47) (.tmp 48) _ rfl 5 _ 1 1 Try.underlying22 info_b rfl (by omega) bc_len bc_one _ _ _ _ _ rfl (HO.out.pure ((Below.refl _ _).alloc (Nat.le_refl _) _)) _ _ _ _ rfl (isb_new _ _ (0 : UInt8) rfl) (by omega) (by have := HBr.out.size; simp; omega) ?_; intro A1 c1 w4 hown1 hfr1 hat1; have HO1 := Lib.hid hown1; have HF1 := Lib.hid hfr1; have HA1 := Lib.hid hat1; clear hown1 hfr1 hat1)
               exact ⟨⟨j + 1, A1, c1, by omega, by omega, by go_num, rfl, by rw [longer_u HF.out hVj]; exact HO1.out, grows_below HBr.out HO.out HF1.out, grows_is HD.out HN.out HF1.out, grows_ne HD.out (by omega) HN.out HA1.out⟩, by simp [intOf]; omega⟩)
        · obtain rfl : Y0 = j := by omega
          go_wp2_with fail
          go_at_call 15
          refine (eqb_spec A0 AD _ _ c0 cD _ _ _ HO.out.is HD.out).mono ?_
          rw [eqB_self]
          rintro e w' ⟨rfl, rfl⟩
          have HB := HBr
          clear HO HD HN HBr
          go_wp2_with fail
          go_at_call 19
          refine (puti_spec none 0 0 V0 (wrap64 u) [] _ (Is.nil _ _) (by omega) (by omega) (wrap64_rng u)).mono ?_
          rintro e w5 ⟨AC, nC, cC, rfl, hOC, hb5⟩
          have HB0 := Lib.hid HB.out.size
          rw [wrap_mod u HU.out, Int.toNat_natCast] at hOC
          rw [Int.toNat_natCast]
          by_cases hfi : fitsI V0 (wrap64 u) = true
          · have hg := fitsI_le hfi WV.out WY.out hle
            rw [putE_yes WV.out hfi]
            rw [putB_yes WV.out hfi] at hOC
            obtain rfl : V0 = nC := by rw [← hOC.1, leBytes_length]
            have HG := Shut.mk hg
            have HFI := Shut.mk hfi
            have HOC := Lib.hid hOC
            have HB := Lib.hid (pure_below HB.out hb5)
            clear hfi hg hOC hb5
            go_wp2_with fail
            go_at_call 19
            refine (puti_spec none 0 0 Y0 (wrap64 u) [] _ (Is.nil _ _) (by omega) (by omega) (wrap64_rng u)).mono ?_
            rintro e w6 ⟨AE, nE, cE, rfl, hOE, hb6⟩
            rw [wrap_mod u HU.out, Int.toNat_natCast] at hOE
            rw [Int.toNat_natCast, putE_yes WY.out HG.out]
            rw [putB_yes WY.out HG.out] at hOE
            obtain rfl : Y0 = nE := by rw [← hOE.1, leBytes_length]
            have hne : ∀ ad ad0, AE = some ad → AC = some ad0 → ad0.block ≠ ad.block := by
              intro ad ad0 h h0
              have h1 := (HOC.out.addr ad0 h0).2.2
              have h2 := (hOE.addr ad h).2.1
              omega
            have HNE := Lib.hid hne
            have HOC := Lib.hid ((HOC.out.pure hb6).rebase HB0.out)
            have HOE := Lib.hid hOE.is
            have HB := Lib.hid (pure_below HB.out hb6)
            clear hOE hb6 hne
            go_wp2
            go_loopw [12, 16] (fun a i wr => Grows w V0 Y0 u AE a i wr) (fun _ i _ => Y0 - (intOf i).toNat)
            case atStart => exact ⟨V0, AC, cC, by omega, hle, rfl, rfl, HOC.out, HB.out, HOE.out, HNE.out⟩
            case round =>
              obtain ⟨j, A0, c0, hVj, hjY, rfl, rfl, hO, hB, hD, hN⟩ := hrel
              have HO := Lib.hid hO
              have HBr := Lib.hid hB
              have HD := Lib.hid hD
              have HN := Lib.hid hN
              clear hO hB hD hN HOC HOE HNE HB
              by_cases hjl : j < Y0
              · first
                  | (exfalso; omega)
                  | (go_wp2_with (at_builtin; refine wpl_app _ rfl (.tmp 92) (.tmp 97) _ rfl 5 _ 1 1 Try.underlying22 info_b rfl (by omega) bc_len bc_one _ _ _ _ _ rfl (HO.out.pure ((Below.refl _ _).alloc (Nat.le_refl _) _)) _ _ _ _ rfl (isb_new _ _ (sgB (wrap64 u)) (sg_byte (wrap64_rng _))) (by omega) (by have := HBr.out.size; simp; omega) ?_; intro A1 c1 w7 hown1 hfr1 hat1; have HO1 := Lib.hid hown1; have HF1 := Lib.hid hfr1; have HA1 := Lib.hid hat1; clear hown1 hfr1 hat1)
                     exact ⟨⟨j + 1, A1, c1, by omega, by omega, by go_num, rfl, by rw [longer_i rfl HU.out WV.out HFI.out hVj (by omega)]; exact HO1.out, grows_below HBr.out HO.out HF1.out, grows_is HD.out HN.out HF1.out, grows_ne HD.out (by omega) HN.out HA1.out⟩, by simp [intOf]; omega⟩)
              · obtain rfl : Y0 = j := by omega
                go_wp2_with fail
                go_at_call 15
                refine (eqb_spec A0 AE _ _ c0 cE _ _ _ HO.out.is HD.out).mono ?_
                rw [eqB_self]
                rintro e w' ⟨rfl, rfl⟩
                have HB := HBr
                clear HO HD HN HBr
                go_wp2_with fail
                go_at_call 16
                refine (works_spec _).mono ?_
                rintro e w9 ⟨rfl, hb⟩
                have HB := Lib.hid (pure_below HB.out hb)
                clear hb
                go_wp2
                go_ret
                exact ⟨rfl, HB.out⟩
          · rw [Bool.not_eq_true] at hfi
            rw [putE_no WV.out hfi]
            rw [putB_no hfi] at hOC
            obtain rfl : 0 = nC := hOC.1
            have HB := Lib.hid (pure_below HB.out hb5)
            clear hfi hOC hb5
            go_wp2_with fail
            go_at_call 19
            refine (puti_spec none 0 0 Y0 (wrap64 u) [] _ (Is.nil _ _) (by omega) (by omega) (wrap64_rng u)).mono ?_
            rintro e w6 ⟨AE, nE, cE, rfl, hOE, hb6⟩
            have HB := Lib.hid (pure_below HB.out hb6)
            clear hOE hb6
            go_wp2_with fail
            go_at_call 16
            refine (works_spec _).mono ?_
            rintro e w9 ⟨rfl, hb⟩
            have HB := Lib.hid (pure_below HB.out hb)
            clear hb
            go_wp2
            go_ret
            exact ⟨rfl, HB.out⟩
    · rw [Bool.not_eq_true] at hfu
      rw [putE_no WV.out hfu]
      have HB := Lib.hid hb2
      clear hfu hOA hb2
      go_wp2_with fail
      go_at_call 17
      refine (put_spec none 0 0 u Y0 [] _ (Is.nil _ _) (by omega) (by omega) HU.out).mono ?_
      rintro e w3 ⟨AD, nD, cD, rfl, hOD, hb3⟩
      have HB := Lib.hid (pure_below HB.out hb3)
      clear hOD hb3
      go_wp2_with fail
      go_at_call 19
      refine (puti_spec none 0 0 V0 (wrap64 u) [] _ (Is.nil _ _) (by omega) (by omega) (wrap64_rng u)).mono ?_
      rintro e w5 ⟨AC, nC, cC, rfl, hOC, hb5⟩
      have HB0 := Lib.hid HB.out.size
      rw [wrap_mod u HU.out, Int.toNat_natCast] at hOC
      rw [Int.toNat_natCast]
      by_cases hfi : fitsI V0 (wrap64 u) = true
      · have hg := fitsI_le hfi WV.out WY.out hle
        rw [putE_yes WV.out hfi]
        rw [putB_yes WV.out hfi] at hOC
        obtain rfl : V0 = nC := by rw [← hOC.1, leBytes_length]
        have HG := Shut.mk hg
        have HFI := Shut.mk hfi
        have HOC := Lib.hid hOC
        have HB := Lib.hid (pure_below HB.out hb5)
        clear hfi hg hOC hb5
        go_wp2_with fail
        go_at_call 19
        refine (puti_spec none 0 0 Y0 (wrap64 u) [] _ (Is.nil _ _) (by omega) (by omega) (wrap64_rng u)).mono ?_
        rintro e w6 ⟨AE, nE, cE, rfl, hOE, hb6⟩
        rw [wrap_mod u HU.out, Int.toNat_natCast] at hOE
        rw [Int.toNat_natCast, putE_yes WY.out HG.out]
        rw [putB_yes WY.out HG.out] at hOE
        obtain rfl : Y0 = nE := by rw [← hOE.1, leBytes_length]
        have hne : ∀ ad ad0, AE = some ad → AC = some ad0 → ad0.block ≠ ad.block := by
          intro ad ad0 h h0
          have h1 := (HOC.out.addr ad0 h0).2.2
          have h2 := (hOE.addr ad h).2.1
          omega
        have HNE := Lib.hid hne
        have HOC := Lib.hid ((HOC.out.pure hb6).rebase HB0.out)
        have HOE := Lib.hid hOE.is
        have HB := Lib.hid (pure_below HB.out hb6)
        clear hOE hb6 hne
        go_wp2
        go_loopw [12, 16] (fun a i wr => Grows w V0 Y0 u AE a i wr) (fun _ i _ => Y0 - (intOf i).toNat)
        case atStart => exact ⟨V0, AC, cC, by omega, hle, rfl, rfl, HOC.out, HB.out, HOE.out, HNE.out⟩
        case round =>
          obtain ⟨j, A0, c0, hVj, hjY, rfl, rfl, hO, hB, hD, hN⟩ := hrel
          have HO := Lib.hid hO
          have HBr := Lib.hid hB
          have HD := Lib.hid hD
          have HN := Lib.hid hN
          clear hO hB hD hN HOC HOE HNE HB
          by_cases hjl : j < Y0
          · first
              | (exfalso; omega)
              | (go_wp2_with (at_builtin; refine wpl_app _ rfl (.tmp 92) (.tmp 97) _ rfl 5 _ 1 1 Try.underlying22 info_b rfl (by omega) bc_len bc_one _ _ _ _ _ rfl (HO.out.pure ((Below.refl _ _).alloc (Nat.le_refl _) _)) _ _ _ _ rfl (isb_new _ _ (sgB (wrap64 u)) (sg_byte (wrap64_rng _))) (by omega) (by have := HBr.out.size; simp; omega) ?_; intro A1 c1 w7 hown1 hfr1 hat1; have HO1 := Lib.hid hown1; have HF1 := Lib.hid hfr1; have HA1 := Lib.hid hat1; clear hown1 hfr1 hat1)
                 exact ⟨⟨j + 1, A1, c1, by omega, by omega, by go_num, rfl, by rw [longer_i rfl HU.out WV.out HFI.out hVj (by omega)]; exact HO1.out, grows_below HBr.out HO.out HF1.out, grows_is HD.out HN.out HF1.out, grows_ne HD.out (by omega) HN.out HA1.out⟩, by simp [intOf]; omega⟩)
          · obtain rfl : Y0 = j := by omega
            go_wp2_with fail
            go_at_call 15
            refine (eqb_spec A0 AE _ _ c0 cE _ _ _ HO.out.is HD.out).mono ?_
            rw [eqB_self]
            rintro e w' ⟨rfl, rfl⟩
            have HB := HBr
            clear HO HD HN HBr
            go_wp2_with fail
            go_at_call 16
            refine (works_spec _).mono ?_
            rintro e w9 ⟨rfl, hb⟩
            have HB := Lib.hid (pure_below HB.out hb)
            clear hb
            go_wp2
            go_ret
            exact ⟨rfl, HB.out⟩
      · rw [Bool.not_eq_true] at hfi
        rw [putE_no WV.out hfi]
        rw [putB_no hfi] at hOC
        obtain rfl : 0 = nC := hOC.1
        have HB := Lib.hid (pure_below HB.out hb5)
        clear hfi hOC hb5
        go_wp2_with fail
        go_at_call 19
        refine (puti_spec none 0 0 Y0 (wrap64 u) [] _ (Is.nil _ _) (by omega) (by omega) (wrap64_rng u)).mono ?_
        rintro e w6 ⟨AE, nE, cE, rfl, hOE, hb6⟩
        have HB := Lib.hid (pure_below HB.out hb6)
        clear hOE hb6
        go_wp2_with fail
        go_at_call 16
        refine (works_spec _).mono ?_
        rintro e w9 ⟨rfl, hb⟩
        have HB := Lib.hid (pure_below HB.out hb)
        clear hb
        go_wp2
        go_ret
        exact ⟨rfl, HB.out⟩
  · have hle : V0 ≤ V0 := by omega
    go_enter Try.func8, Try.ntmps8
    go_wp2_with fail
    go_at_call 24
    refine (widen_spec v _).mono ?_
    rw [HV.out]
    rintro e w' ⟨rfl, rfl⟩
    go_wp2_with fail
    go_at_call 24
    refine (widen_spec x _).mono ?_
    rw [HY.out]
    rintro e w' ⟨rfl, rfl⟩
    go_wp2_with fail
    go_at_call 24
    refine (widen_spec v _).mono ?_
    rw [HV.out]
    rintro e w' ⟨rfl, rfl⟩
    go_wp2_with fail
    go_at_call 24
    refine (widen_spec x _).mono ?_
    rw [HY.out]
    rintro e w' ⟨rfl, rfl⟩
    go_wp2_with fail
    have hv1 : 1 ≤ V0 := by have := isW_iff.1 WV.out; omega
    have hy8 : V0 ≤ 8 := by have := isW_iff.1 WV.out; omega
    go_at_call 17
    refine (put_spec none 0 0 u V0 [] _ (Is.nil _ _) (by omega) (by omega) HU.out).mono ?_
    rintro e w2 ⟨AA, nA, cA, rfl, hOA, hb2⟩
    rw [Int.toNat_natCast] at hOA ⊢
    by_cases hfu : fitsU V0 u = true
    · have hg := fitsU_le hfu HU.out hle
      rw [putE_yes WV.out hfu]
      rw [putB_yes WV.out hfu] at hOA
      obtain rfl : V0 = nA := by rw [← hOA.1, leBytes_length]
      have HG := Shut.mk hg
      have HF := Shut.mk (fits_lt hfu HU.out)
      have HOA := Lib.hid hOA
      have HB := Lib.hid hb2
      clear hfu hg hOA hb2
      go_wp2_with fail
      go_at_call 17
      refine (put_spec none 0 0 u V0 [] _ (Is.nil _ _) (by omega) (by omega) HU.out).mono ?_
      rintro e w3 ⟨AD, nD, cD, rfl, hOD, hb3⟩
      rw [Int.toNat_natCast] at hOD ⊢
      rw [putE_yes WV.out HG.out]
      rw [putB_yes WV.out HG.out] at hOD
      obtain rfl : V0 = nD := by rw [← hOD.1, leBytes_length]
      have hne : ∀ ad ad0, AD = some ad → AA = some ad0 → ad0.block ≠ ad.block := by
        intro ad ad0 h h0
        have h1 := (HOA.out.addr ad0 h0).2.2
        have h2 := (hOD.addr ad h).2.1
        omega
      have HNE := Lib.hid hne
      have HOA := Lib.hid (HOA.out.pure hb3)
      have HOD := Lib.hid hOD.is
      have HB := Lib.hid (pure_below HB.out hb3)
      clear hOD hb3 hne
      go_wp2
      go_loopw [7, 11] (fun a i wr => Grows w V0 V0 u AD a i wr) (fun _ i _ => V0 - (intOf i).toNat)
      case atStart => exact ⟨V0, AA, cA, by omega, hle, rfl, rfl, HOA.out, HB.out, HOD.out, HNE.out⟩
      case round =>
        obtain ⟨j, A0, c0, hVj, hjY, rfl, rfl, hO, hB, hD, hN⟩ := hrel
        have HO := Lib.hid hO
        have HBr := Lib.hid hB
        have HD := Lib.hid hD
        have HN := Lib.hid hN
        clear hO hB hD hN HOA HOD HNE HB
        by_cases hjl : j < V0
        · first
            | (exfalso; omega)
            | (go_wp2_with (at_builtin; refine wpl_app _ rfl (.tmp 47) (.tmp 48) _ rfl 5 _ 1 1 Try.underlying22 info_b rfl (by omega) bc_len bc_one _ _ _ _ _ rfl (HO.out.pure ((Below.refl _ _).alloc (Nat.le_refl _) _)) _ _ _ _ rfl (isb_new _ _ (0 : UInt8) rfl) (by omega) (by have := HBr.out.size; simp; omega) ?_; intro A1 c1 w4 hown1 hfr1 hat1; have HO1 := Lib.hid hown1; have HF1 := Lib.hid hfr1; have HA1 := Lib.hid hat1; clear hown1 hfr1 hat1)
               exact ⟨⟨j + 1, A1, c1, by omega, by omega, by go_num, rfl, by rw [longer_u HF.out hVj]; exact HO1.out, grows_below HBr.out HO.out HF1.out, grows_is HD.out HN.out HF1.out, grows_ne HD.out (by omega) HN.out HA1.out⟩, by simp [intOf]; omega⟩)
        · obtain rfl : V0 = j := by omega
          go_wp2_with fail
          go_at_call 15
          refine (eqb_spec A0 AD _ _ c0 cD _ _ _ HO.out.is HD.out).mono ?_
          rw [eqB_self]
          rintro e w' ⟨rfl, rfl⟩
          have HB := HBr
          clear HO HD HN HBr
          go_wp2_with fail
          go_at_call 19
          refine (puti_spec none 0 0 V0 (wrap64 u) [] _ (Is.nil _ _) (by omega) (by omega) (wrap64_rng u)).mono ?_
          rintro e w5 ⟨AC, nC, cC, rfl, hOC, hb5⟩
          have HB0 := Lib.hid HB.out.size
          rw [wrap_mod u HU.out, Int.toNat_natCast] at hOC
          rw [Int.toNat_natCast]
          by_cases hfi : fitsI V0 (wrap64 u) = true
          · have hg := fitsI_le hfi WV.out WV.out hle
            rw [putE_yes WV.out hfi]
            rw [putB_yes WV.out hfi] at hOC
            obtain rfl : V0 = nC := by rw [← hOC.1, leBytes_length]
            have HG := Shut.mk hg
            have HFI := Shut.mk hfi
            have HOC := Lib.hid hOC
            have HB := Lib.hid (pure_below HB.out hb5)
            clear hfi hg hOC hb5
            go_wp2_with fail
            go_at_call 19
            refine (puti_spec none 0 0 V0 (wrap64 u) [] _ (Is.nil _ _) (by omega) (by omega) (wrap64_rng u)).mono ?_
            rintro e w6 ⟨AE, nE, cE, rfl, hOE, hb6⟩
            rw [wrap_mod u HU.out, Int.toNat_natCast] at hOE
            rw [Int.toNat_natCast, putE_yes WV.out HG.out]
            rw [putB_yes WV.out HG.out] at hOE
            obtain rfl : V0 = nE := by rw [← hOE.1, leBytes_length]
            have hne : ∀ ad ad0, AE = some ad → AC = some ad0 → ad0.block ≠ ad.block := by
              intro ad ad0 h h0
              have h1 := (HOC.out.addr ad0 h0).2.2
              have h2 := (hOE.addr ad h).2.1
              omega
            have HNE := Lib.hid hne
            have HOC := Lib.hid ((HOC.out.pure hb6).rebase HB0.out)
            have HOE := Lib.hid hOE.is
            have HB := Lib.hid (pure_below HB.out hb6)
            clear hOE hb6 hne
            go_wp2
            go_loopw [12, 16] (fun a i wr => Grows w V0 V0 u AE a i wr) (fun _ i _ => V0 - (intOf i).toNat)
            case atStart => exact ⟨V0, AC, cC, by omega, hle, rfl, rfl, HOC.out, HB.out, HOE.out, HNE.out⟩
            case round =>
              obtain ⟨j, A0, c0, hVj, hjY, rfl, rfl, hO, hB, hD, hN⟩ := hrel
              have HO := Lib.hid hO
              have HBr := Lib.hid hB
              have HD := Lib.hid hD
              have HN := Lib.hid hN
              clear hO hB hD hN HOC HOE HNE HB
              by_cases hjl : j < V0
              · first
                  | (exfalso; omega)
                  | (go_wp2_with (at_builtin; refine wpl_app _ rfl (.tmp 92) (.tmp 97) _ rfl 5 _ 1 1 Try.underlying22 info_b rfl (by omega) bc_len bc_one _ _ _ _ _ rfl (HO.out.pure ((Below.refl _ _).alloc (Nat.le_refl _) _)) _ _ _ _ rfl (isb_new _ _ (sgB (wrap64 u)) (sg_byte (wrap64_rng _))) (by omega) (by have := HBr.out.size; simp; omega) ?_; intro A1 c1 w7 hown1 hfr1 hat1; have HO1 := Lib.hid hown1; have HF1 := Lib.hid hfr1; have HA1 := Lib.hid hat1; clear hown1 hfr1 hat1)
                     exact ⟨⟨j + 1, A1, c1, by omega, by omega, by go_num, rfl, by rw [longer_i rfl HU.out WV.out HFI.out hVj (by omega)]; exact HO1.out, grows_below HBr.out HO.out HF1.out, grows_is HD.out HN.out HF1.out, grows_ne HD.out (by omega) HN.out HA1.out⟩, by simp [intOf]; omega⟩)
              · obtain rfl : V0 = j := by omega
                go_wp2_with fail
                go_at_call 15
                refine (eqb_spec A0 AE _ _ c0 cE _ _ _ HO.out.is HD.out).mono ?_
                rw [eqB_self]
                rintro e w' ⟨rfl, rfl⟩
                have HB := HBr
                clear HO HD HN HBr
                go_wp2_with fail
                go_at_call 16
                refine (works_spec _).mono ?_
                rintro e w9 ⟨rfl, hb⟩
                have HB := Lib.hid (pure_below HB.out hb)
                clear hb
                go_wp2
                go_ret
                exact ⟨rfl, HB.out⟩
          · rw [Bool.not_eq_true] at hfi
            rw [putE_no WV.out hfi]
            rw [putB_no hfi] at hOC
            obtain rfl : 0 = nC := hOC.1
            have HB := Lib.hid (pure_below HB.out hb5)
            clear hfi hOC hb5
            go_wp2_with fail
            go_at_call 19
            refine (puti_spec none 0 0 V0 (wrap64 u) [] _ (Is.nil _ _) (by omega) (by omega) (wrap64_rng u)).mono ?_
            rintro e w6 ⟨AE, nE, cE, rfl, hOE, hb6⟩
            have HB := Lib.hid (pure_below HB.out hb6)
            clear hOE hb6
            go_wp2_with fail
            go_at_call 16
            refine (works_spec _).mono ?_
            rintro e w9 ⟨rfl, hb⟩
            have HB := Lib.hid (pure_below HB.out hb)
            clear hb
            go_wp2
            go_ret
            exact ⟨rfl, HB.out⟩
    · rw [Bool.not_eq_true] at hfu
      rw [putE_no WV.out hfu]
      have HB := Lib.hid hb2
      clear hfu hOA hb2
      go_wp2_with fail
      go_at_call 17
      refine (put_spec none 0 0 u V0 [] _ (Is.nil _ _) (by omega) (by omega) HU.out).mono ?_
      rintro e w3 ⟨AD, nD, cD, rfl, hOD, hb3⟩
      have HB := Lib.hid (pure_below HB.out hb3)
      clear hOD hb3
      go_wp2_with fail
      go_at_call 19
      refine (puti_spec none 0 0 V0 (wrap64 u) [] _ (Is.nil _ _) (by omega) (by omega) (wrap64_rng u)).mono ?_
      rintro e w5 ⟨AC, nC, cC, rfl, hOC, hb5⟩
      have HB0 := Lib.hid HB.out.size
      rw [wrap_mod u HU.out, Int.toNat_natCast] at hOC
      rw [Int.toNat_natCast]
      by_cases hfi : fitsI V0 (wrap64 u) = true
      · have hg := fitsI_le hfi WV.out WV.out hle
        rw [putE_yes WV.out hfi]
        rw [putB_yes WV.out hfi] at hOC
        obtain rfl : V0 = nC := by rw [← hOC.1, leBytes_length]
        have HG := Shut.mk hg
        have HFI := Shut.mk hfi
        have HOC := Lib.hid hOC
        have HB := Lib.hid (pure_below HB.out hb5)
        clear hfi hg hOC hb5
        go_wp2_with fail
        go_at_call 19
        refine (puti_spec none 0 0 V0 (wrap64 u) [] _ (Is.nil _ _) (by omega) (by omega) (wrap64_rng u)).mono ?_
        rintro e w6 ⟨AE, nE, cE, rfl, hOE, hb6⟩
        rw [wrap_mod u HU.out, Int.toNat_natCast] at hOE
        rw [Int.toNat_natCast, putE_yes WV.out HG.out]
        rw [putB_yes WV.out HG.out] at hOE
        obtain rfl : V0 = nE := by rw [← hOE.1, leBytes_length]
        have hne : ∀ ad ad0, AE = some ad → AC = some ad0 → ad0.block ≠ ad.block := by
          intro ad ad0 h h0
          have h1 := (HOC.out.addr ad0 h0).2.2
          have h2 := (hOE.addr ad h).2.1
          omega
        have HNE := Lib.hid hne
        have HOC := Lib.hid ((HOC.out.pure hb6).rebase HB0.out)
        have HOE := Lib.hid hOE.is
        have HB := Lib.hid (pure_below HB.out hb6)
        clear hOE hb6 hne
        go_wp2
        go_loopw [12, 16] (fun a i wr => Grows w V0 V0 u AE a i wr) (fun _ i _ => V0 - (intOf i).toNat)
        case atStart => exact ⟨V0, AC, cC, by omega, hle, rfl, rfl, HOC.out, HB.out, HOE.out, HNE.out⟩
        case round =>
          obtain ⟨j, A0, c0, hVj, hjY, rfl, rfl, hO, hB, hD, hN⟩ := hrel
          have HO := Lib.hid hO
          have HBr := Lib.hid hB
          have HD := Lib.hid hD
          have HN := Lib.hid hN
          clear hO hB hD hN HOC HOE HNE HB
          by_cases hjl : j < V0
          · first
              | (exfalso; omega)
              | (go_wp2_with (at_builtin; refine wpl_app _ rfl (.tmp 92) (.tmp 97) _ rfl 5 _ 1 1 Try.underlying22 info_b rfl (by omega) bc_len bc_one _ _ _ _ _ rfl (HO.out.pure ((Below.refl _ _).alloc (Nat.le_refl _) _)) _ _ _ _ rfl (isb_new _ _ (sgB (wrap64 u)) (sg_byte (wrap64_rng _))) (by omega) (by have := HBr.out.size; simp; omega) ?_; intro A1 c1 w7 hown1 hfr1 hat1; have HO1 := Lib.hid hown1; have HF1 := Lib.hid hfr1; have HA1 := Lib.hid hat1; clear hown1 hfr1 hat1)
                 exact ⟨⟨j + 1, A1, c1, by omega, by omega, by go_num, rfl, by rw [longer_i rfl HU.out WV.out HFI.out hVj (by omega)]; exact HO1.out, grows_below HBr.out HO.out HF1.out, grows_is HD.out HN.out HF1.out, grows_ne HD.out (by omega) HN.out HA1.out⟩, by simp [intOf]; omega⟩)
          · obtain rfl : V0 = j := by omega
            go_wp2_with fail
            go_at_call 15
            refine (eqb_spec A0 AE _ _ c0 cE _ _ _ HO.out.is HD.out).mono ?_
            rw [eqB_self]
            rintro e w' ⟨rfl, rfl⟩
            have HB := HBr
            clear HO HD HN HBr
            go_wp2_with fail
            go_at_call 16
            refine (works_spec _).mono ?_
            rintro e w9 ⟨rfl, hb⟩
            have HB := Lib.hid (pure_below HB.out hb)
            clear hb
            go_wp2
            go_ret
            exact ⟨rfl, HB.out⟩
      · rw [Bool.not_eq_true] at hfi
        rw [putE_no WV.out hfi]
        rw [putB_no hfi] at hOC
        obtain rfl : 0 = nC := hOC.1
        have HB := Lib.hid (pure_below HB.out hb5)
        clear hfi hOC hb5
        go_wp2_with fail
        go_at_call 19
        refine (puti_spec none 0 0 V0 (wrap64 u) [] _ (Is.nil _ _) (by omega) (by omega) (wrap64_rng u)).mono ?_
        rintro e w6 ⟨AE, nE, cE, rfl, hOE, hb6⟩
        have HB := Lib.hid (pure_below HB.out hb6)
        clear hOE hb6
        go_wp2_with fail
        go_at_call 16
        refine (works_spec _).mono ?_
        rintro e w9 ⟨rfl, hb⟩
        have HB := Lib.hid (pure_below HB.out hb)
        clear hb
        go_wp2
        go_ret
        exact ⟨rfl, HB.out⟩
  · have hle : Y0 ≤ V0 := by omega
    go_enter Try.func8, Try.ntmps8
    go_wp2_with fail
    go_at_call 24
    refine (widen_spec v _).mono ?_
    rw [HV.out]
    rintro e w' ⟨rfl, rfl⟩
    go_wp2_with fail
    go_at_call 24
    refine (widen_spec x _).mono ?_
    rw [HY.out]
    rintro e w' ⟨rfl, rfl⟩
    go_wp2_with fail
    go_at_call 24
    refine (widen_spec v _).mono ?_
    rw [HV.out]
    rintro e w' ⟨rfl, rfl⟩
    go_wp2_with fail
    go_at_call 24
    refine (widen_spec x _).mono ?_
    rw [HY.out]
    rintro e w' ⟨rfl, rfl⟩
    go_wp2_with fail
    have hv1 : 1 ≤ Y0 := by have := isW_iff.1 WY.out; omega
    have hy8 : V0 ≤ 8 := by have := isW_iff.1 WV.out; omega
    go_at_call 17
    refine (put_spec none 0 0 u Y0 [] _ (Is.nil _ _) (by omega) (by omega) HU.out).mono ?_
    rintro e w2 ⟨AA, nA, cA, rfl, hOA, hb2⟩
    rw [Int.toNat_natCast] at hOA ⊢
    by_cases hfu : fitsU Y0 u = true
    · have hg := fitsU_le hfu HU.out hle
      rw [putE_yes WY.out hfu]
      rw [putB_yes WY.out hfu] at hOA
      obtain rfl : Y0 = nA := by rw [← hOA.1, leBytes_length]
      have HG := Shut.mk hg
      have HF := Shut.mk (fits_lt hfu HU.out)
      have HOA := Lib.hid hOA
      have HB := Lib.hid hb2
      clear hfu hg hOA hb2
      go_wp2_with fail
      go_at_call 17
      refine (put_spec none 0 0 u V0 [] _ (Is.nil _ _) (by omega) (by omega) HU.out).mono ?_
      rintro e w3 ⟨AD, nD, cD, rfl, hOD, hb3⟩
      rw [Int.toNat_natCast] at hOD ⊢
      rw [putE_yes WV.out HG.out]
      rw [putB_yes WV.out HG.out] at hOD
      obtain rfl : V0 = nD := by rw [← hOD.1, leBytes_length]
      have hne : ∀ ad ad0, AD = some ad → AA = some ad0 → ad0.block ≠ ad.block := by
        intro ad ad0 h h0
        have h1 := (HOA.out.addr ad0 h0).2.2
        have h2 := (hOD.addr ad h).2.1
        omega
      have HNE := Lib.hid hne
      have HOA := Lib.hid (HOA.out.pure hb3)
      have HOD := Lib.hid hOD.is
      have HB := Lib.hid (pure_below HB.out hb3)
      clear hOD hb3 hne
      go_wp2
      go_loopw [7, 11] (fun a i wr => Grows w Y0 V0 u AD a i wr) (fun _ i _ => V0 - (intOf i).toNat)
      case atStart => exact ⟨Y0, AA, cA, by omega, hle, rfl, rfl, HOA.out, HB.out, HOD.out, HNE.out⟩
      case round =>
        obtain ⟨j, A0, c0, hVj, hjY, rfl, rfl, hO, hB, hD, hN⟩ := hrel
        have HO := Lib.hid hO
        have HBr := Lib.hid hB
        have HD := Lib.hid hD
        have HN := Lib.hid hN
        clear hO hB hD hN HOA HOD HNE HB
        by_cases hjl : j < V0
        · first
            | (exfalso; omega)
            | (go_wp2_with (at_builtin; refine wpl_app _ rfl (.tmp 47) (.tmp 48) _ rfl 5 _ 1 1 Try.underlying22 info_b rfl (by omega) bc_len bc_one _ _ _ _ _ rfl (HO.out.pure ((Below.refl _ _).alloc (Nat.le_refl _) _)) _ _ _ _ rfl (isb_new _ _ (0 : UInt8) rfl) (by omega) (by have := HBr.out.size; simp; omega) ?_; intro A1 c1 w4 hown1 hfr1 hat1; have HO1 := Lib.hid hown1; have HF1 := Lib.hid hfr1; have HA1 := Lib.hid hat1; clear hown1 hfr1 hat1)
               exact ⟨⟨j + 1, A1, c1, by omega, by omega, by go_num, rfl, by rw [longer_u HF.out hVj]; exact HO1.out, grows_below HBr.out HO.out HF1.out, grows_is HD.out HN.out HF1.out, grows_ne HD.out (by omega) HN.out HA1.out⟩, by simp [intOf]; omega⟩)
        · obtain rfl : V0 = j := by omega
          go_wp2_with fail
          go_at_call 15
          refine (eqb_spec A0 AD _ _ c0 cD _ _ _ HO.out.is HD.out).mono ?_
          rw [eqB_self]
          rintro e w' ⟨rfl, rfl⟩
          have HB := HBr
          clear HO HD HN HBr
          go_wp2_with fail
          go_at_call 19
          refine (puti_spec none 0 0 Y0 (wrap64 u) [] _ (Is.nil _ _) (by omega) (by omega) (wrap64_rng u)).mono ?_
          rintro e w5 ⟨AC, nC, cC, rfl, hOC, hb5⟩
          have HB0 := Lib.hid HB.out.size
          rw [wrap_mod u HU.out, Int.toNat_natCast] at hOC
          rw [Int.toNat_natCast]
          by_cases hfi : fitsI Y0 (wrap64 u) = true
          · have hg := fitsI_le hfi WY.out WV.out hle
            rw [putE_yes WY.out hfi]
            rw [putB_yes WY.out hfi] at hOC
            obtain rfl : Y0 = nC := by rw [← hOC.1, leBytes_length]
            have HG := Shut.mk hg
            have HFI := Shut.mk hfi
            have HOC := Lib.hid hOC
            have HB := Lib.hid (pure_below HB.out hb5)
            clear hfi hg hOC hb5
            go_wp2_with fail
            go_at_call 19
            refine (puti_spec none 0 0 V0 (wrap64 u) [] _ (Is.nil _ _) (by omega) (by omega) (wrap64_rng u)).mono ?_
            rintro e w6 ⟨AE, nE, cE, rfl, hOE, hb6⟩
            rw [wrap_mod u HU.out, Int.toNat_natCast] at hOE
            rw [Int.toNat_natCast, putE_yes WV.out HG.out]
            rw [putB_yes WV.out HG.out] at hOE
            obtain rfl : V0 = nE := by rw [← hOE.1, leBytes_length]
            have hne : ∀ ad ad0, AE = some ad → AC = some ad0 → ad0.block ≠ ad.block := by
              intro ad ad0 h h0
              have h1 := (HOC.out.addr ad0 h0).2.2
              have h2 := (hOE.addr ad h).2.1
              omega
            have HNE := Lib.hid hne
            have HOC := Lib.hid ((HOC.out.pure hb6).rebase HB0.out)
            have HOE := Lib.hid hOE.is
            have HB := Lib.hid (pure_below HB.out hb6)
            clear hOE hb6 hne
            go_wp2
            go_loopw [12, 16] (fun a i wr => Grows w Y0 V0 u AE a i wr) (fun _ i _ => V0 - (intOf i).toNat)
            case atStart => exact ⟨Y0, AC, cC, by omega, hle, rfl, rfl, HOC.out, HB.out, HOE.out, HNE.out⟩
            case round =>
              obtain ⟨j, A0, c0, hVj, hjY, rfl, rfl, hO, hB, hD, hN⟩ := hrel
              have HO := Lib.hid hO
              have HBr := Lib.hid hB
              have HD := Lib.hid hD
              have HN := Lib.hid hN
              clear hO hB hD hN HOC HOE HNE HB
              by_cases hjl : j < V0
              · first
                  | (exfalso; omega)
                  | (go_wp2_with (at_builtin; refine wpl_app _ rfl (.tmp 92) (.tmp 97) _ rfl 5 _ 1 1 Try.underlying22 info_b rfl (by omega) bc_len bc_one _ _ _ _ _ rfl (HO.out.pure ((Below.refl _ _).alloc (Nat.le_refl _) _)) _ _ _ _ rfl (isb_new _ _ (sgB (wrap64 u)) (sg_byte (wrap64_rng _))) (by omega) (by have := HBr.out.size; simp; omega) ?_; intro A1 c1 w7 hown1 hfr1 hat1; have HO1 := Lib.hid hown1; have HF1 := Lib.hid hfr1; have HA1 := Lib.hid hat1; clear hown1 hfr1 hat1)
                     exact ⟨⟨j + 1, A1, c1, by omega, by omega, by go_num, rfl, by rw [longer_i rfl HU.out WY.out HFI.out hVj (by omega)]; exact HO1.out, grows_below HBr.out HO.out HF1.out, grows_is HD.out HN.out HF1.out, grows_ne HD.out (by omega) HN.out HA1.out⟩, by simp [intOf]; omega⟩)
              · obtain rfl : V0 = j := by omega
                go_wp2_with fail
                go_at_call 15
                refine (eqb_spec A0 AE _ _ c0 cE _ _ _ HO.out.is HD.out).mono ?_
                rw [eqB_self]
                rintro e w' ⟨rfl, rfl⟩
                have HB := HBr
                clear HO HD HN HBr
                go_wp2_with fail
                go_at_call 16
                refine (works_spec _).mono ?_
                rintro e w9 ⟨rfl, hb⟩
                have HB := Lib.hid (pure_below HB.out hb)
                clear hb
                go_wp2
                go_ret
                exact ⟨rfl, HB.out⟩
          · rw [Bool.not_eq_true] at hfi
            rw [putE_no WY.out hfi]
            rw [putB_no hfi] at hOC
            obtain rfl : 0 = nC := hOC.1
            have HB := Lib.hid (pure_below HB.out hb5)
            clear hfi hOC hb5
            go_wp2_with fail
            go_at_call 19
            refine (puti_spec none 0 0 V0 (wrap64 u) [] _ (Is.nil _ _) (by omega) (by omega) (wrap64_rng u)).mono ?_
            rintro e w6 ⟨AE, nE, cE, rfl, hOE, hb6⟩
            have HB := Lib.hid (pure_below HB.out hb6)
            clear hOE hb6
            go_wp2_with fail
            go_at_call 16
            refine (works_spec _).mono ?_
            rintro e w9 ⟨rfl, hb⟩
            have HB := Lib.hid (pure_below HB.out hb)
            clear hb
            go_wp2
            go_ret
            exact ⟨rfl, HB.out⟩
    · rw [Bool.not_eq_true] at hfu
      rw [putE_no WY.out hfu]
      have HB := Lib.hid hb2
      clear hfu hOA hb2
      go_wp2_with fail
      go_at_call 17
      refine (put_spec none 0 0 u V0 [] _ (Is.nil _ _) (by omega) (by omega) HU.out).mono ?_
      rintro e w3 ⟨AD, nD, cD, rfl, hOD, hb3⟩
      have HB := Lib.hid (pure_below HB.out hb3)
      clear hOD hb3
      go_wp2_with fail
      go_at_call 19
      refine (puti_spec none 0 0 Y0 (wrap64 u) [] _ (Is.nil _ _) (by omega) (by omega) (wrap64_rng u)).mono ?_
      rintro e w5 ⟨AC, nC, cC, rfl, hOC, hb5⟩
      have HB0 := Lib.hid HB.out.size
      rw [wrap_mod u HU.out, Int.toNat_natCast] at hOC
      rw [Int.toNat_natCast]
      by_cases hfi : fitsI Y0 (wrap64 u) = true
      · have hg := fitsI_le hfi WY.out WV.out hle
        rw [putE_yes WY.out hfi]
        rw [putB_yes WY.out hfi] at hOC
        obtain rfl : Y0 = nC := by rw [← hOC.1, leBytes_length]
        have HG := Shut.mk hg
        have HFI := Shut.mk hfi
        have HOC := Lib.hid hOC
        have HB := Lib.hid (pure_below HB.out hb5)
        clear hfi hg hOC hb5
        go_wp2_with fail
        go_at_call 19
        refine (puti_spec none 0 0 V0 (wrap64 u) [] _ (Is.nil _ _) (by omega) (by omega) (wrap64_rng u)).mono ?_
        rintro e w6 ⟨AE, nE, cE, rfl, hOE, hb6⟩
        rw [wrap_mod u HU.out, Int.toNat_natCast] at hOE
        rw [Int.toNat_natCast, putE_yes WV.out HG.out]
        rw [putB_yes WV.out HG.out] at hOE
        obtain rfl : V0 = nE := by rw [← hOE.1, leBytes_length]
        have hne : ∀ ad ad0, AE = some ad → AC = some ad0 → ad0.block ≠ ad.block := by
          intro ad ad0 h h0
          have h1 := (HOC.out.addr ad0 h0).2.2
          have h2 := (hOE.addr ad h).2.1
          omega
        have HNE := Lib.hid hne
        have HOC := Lib.hid ((HOC.out.pure hb6).rebase HB0.out)
        have HOE := Lib.hid hOE.is
        have HB := Lib.hid (pure_below HB.out hb6)
        clear hOE hb6 hne
        go_wp2
        go_loopw [12, 16] (fun a i wr => Grows w Y0 V0 u AE a i wr) (fun _ i _ => V0 - (intOf i).toNat)
        case atStart => exact ⟨Y0, AC, cC, by omega, hle, rfl, rfl, HOC.out, HB.out, HOE.out, HNE.out⟩
        case round =>
          obtain ⟨j, A0, c0, hVj, hjY, rfl, rfl, hO, hB, hD, hN⟩ := hrel
          have HO := Lib.hid hO
          have HBr := Lib.hid hB
          have HD := Lib.hid hD
          have HN := Lib.hid hN
          clear hO hB hD hN HOC HOE HNE HB
          by_cases hjl : j < V0
          · first
              | (exfalso; omega)
              | (go_wp2_with (at_builtin; refine wpl_app _ rfl (.tmp 92) (.tmp 97) _ rfl 5 _ 1 1 Try.underlying22 info_b rfl (by omega) bc_len bc_one _ _ _ _ _ rfl (HO.out.pure ((Below.refl _ _).alloc (Nat.le_refl _) _)) _ _ _ _ rfl (isb_new _ _ (sgB (wrap64 u)) (sg_byte (wrap64_rng _))) (by omega) (by have := HBr.out.size; simp; omega) ?_; intro A1 c1 w7 hown1 hfr1 hat1; have HO1 := Lib.hid hown1; have HF1 := Lib.hid hfr1; have HA1 := Lib.hid hat1; clear hown1 hfr1 hat1)
                 exact ⟨⟨j + 1, A1, c1, by omega, by omega, by go_num, rfl, by rw [longer_i rfl HU.out WY.out HFI.out hVj (by omega)]; exact HO1.out, grows_below HBr.out HO.out HF1.out, grows_is HD.out HN.out HF1.out, grows_ne HD.out (by omega) HN.out HA1.out⟩, by simp [intOf]; omega⟩)
          · obtain rfl : V0 = j := by omega
            go_wp2_with fail
            go_at_call 15
            refine (eqb_spec A0 AE _ _ c0 cE _ _ _ HO.out.is HD.out).mono ?_
            rw [eqB_self]
            rintro e w' ⟨rfl, rfl⟩
            have HB := HBr
            clear HO HD HN HBr
            go_wp2_with fail
            go_at_call 16
            refine (works_spec _).mono ?_
            rintro e w9 ⟨rfl, hb⟩
            have HB := Lib.hid (pure_below HB.out hb)
            clear hb
            go_wp2
            go_ret
            exact ⟨rfl, HB.out⟩
      · rw [Bool.not_eq_true] at hfi
        rw [putE_no WY.out hfi]
        rw [putB_no hfi] at hOC
        obtain rfl : 0 = nC := hOC.1
        have HB := Lib.hid (pure_below HB.out hb5)
        clear hfi hOC hb5
        go_wp2_with fail
        go_at_call 19
        refine (puti_spec none 0 0 V0 (wrap64 u) [] _ (Is.nil _ _) (by omega) (by omega) (wrap64_rng u)).mono ?_
        rintro e w6 ⟨AE, nE, cE, rfl, hOE, hb6⟩
        have HB := Lib.hid (pure_below HB.out hb6)
        clear hOE hb6
        go_wp2_with fail
        go_at_call 16
        refine (works_spec _).mono ?_
        rintro e w9 ⟨rfl, hb⟩
        have HB := Lib.hid (pure_below HB.out hb)
        clear hb
        go_wp2
        go_ret
        exact ⟨rfl, HB.out⟩

open Go.ChangeShapes Go.WideShapes Go.ChangeAt
theorem leLonger_run {H : Type} {enc : TypeId × Value → H} {v0 v1 v2 : Value} {d0 d1 d2 : DataW H} {p0 p1 p2 : List MemPlace} (W : World) (base : Nat) (k0 : Value.okWide Try.prog W .any base 3 v0) (k1 : Value.okWide Try.prog W .any base 3 v1) (k2 : Value.okWide Try.prog W .any base 24 v2)
    (h0 : DataW.Trod enc Try.prog W 0 (fun _ => true) true 3 v0 d0 p0) (h1 : DataW.Trod enc Try.prog W 0 (fun _ => true) true 3 v1 d1 p1) (h2 : DataW.Trod enc Try.prog W 0 (fun _ => true) true 24 v2 d2 p2) :
    Calls Try.prog 8 #[v0, v1, v2] W fun e w' => e = .returned (.bool true) ∧ Below W.heap.size W w' := by
  obtain ⟨m0, rfl, _⟩ := int_arg k0 h0
  obtain ⟨m1, rfl, _⟩ := int_arg k1 h1
  obtain ⟨u, rfl, hu⟩ := u64_arg k2 h2
  exact lelonger_spec m0 m1 u W hu

set_option maxRecDepth 100000 in
theorem leLonger_lifted (os : Os) (started : os.Started) (H : Type) (enc : TypeId × Value → H) :
    ReturnsInHanded {} Try.checked os 8 .any (Rows.leLongerSpec.pre6 enc Try.prog Try.f8 Rows.leLongerRow.domain false) (Rows.leLongerSpec.post enc Try.prog Try.f8 false true false false) := by
  refine returnsInHanded_of_change (C := Try.checked) acc_own started (by kernel_rfl) Try.func8
    (ChangeSpec.witness6 (enc := enc) (C := Try.checked) false ⟨#[], #[.int .i64 0, .int .i64 0, .int .u64 0], []⟩ 8 (by kernel_rfl) (by kernel_rfl) (by kernel_rfl) (by kernel_rfl)) ?_
  intro W base args ds gs before hval0 hW hcnd _
  have hval : ∀ (j : Nat) t v, Try.f8.params[j]? = some t → args[j]? = some v → Value.okWide Try.prog W .any base t v := hval0
  have hW' := hW
  obtain ⟨p, q, hA0, hV, rfl, hfz, hnd⟩ := hW
  have hA : DataW.TrodAll enc Try.prog W 0 (fun _ => true) true Try.f8.params.toList args.toList ds p := hA0
  rw [Try.params8] at hA
  rw [Try.params8] at hval
  obtain ⟨v0, vs0, d0, ds0, p0, q0, hargs, rfl, rfl, h0, r0⟩ := trodAll_cons hA
  obtain ⟨v1, vs1, d1, ds1, p1, q1, rfl, rfl, rfl, h1, r1⟩ := trodAll_cons r0
  obtain ⟨v2, vs2, d2, ds2, p2, q2, rfl, rfl, rfl, h2, r2⟩ := trodAll_cons r1
  obtain ⟨rfl, rfl, rfl⟩ := trodAll_nil r2
  obtain rfl : args = #[v0, v1, v2] := by cases args; simp_all
  obtain ⟨rfl, rfl⟩ := trodVars_none hV
  have k0 := hval 0 3 v0 rfl rfl
  have k1 := hval 1 3 v1 rfl rfl
  have k2 := hval 2 24 v2 rfl rfl
  clear hA0 hval0
  refine (leLonger_run (enc := enc) W base k0 k1 k2 h0 h1 h2).mono fun e W' ⟨he, bel⟩ => ?_
  subst he
  exact ⟨_, rfl, _, _, _, [], _, [], hW', trodAll_mk1 (shut_bool Try.underlying4 _), (trodAll_cons_mk (below_arg acc_laidOut (by kernel_rfl) (of_decide_eq_true (by kernel_rfl)) h0 bel) (trodAll_cons_mk (below_arg acc_laidOut (by kernel_rfl) (of_decide_eq_true (by kernel_rfl)) h1 bel) (trodAll_cons_mk (below_arg acc_laidOut (by kernel_rfl) (of_decide_eq_true (by kernel_rfl)) h2 bel) trodAll_mk0))), rfl, bel.frame _, fun h => by cases h⟩

theorem leLonger_holds : Rows.LeLongerSaid :=
  OpenClaim.holds_of_wide 8 Try.f8 rfl rfl rfl rfl rfl rfl rfl ⟨rfl, rfl, rfl, rfl, rfl⟩ rfl rfl rfl rfl rfl (by kernel_rfl) Try.func8 (by kernel_rfl)
    (of_decide_eq_true (by kernel_rfl)) (by unfold Func.isWrapper; rw [if_neg (of_decide_eq_false (by kernel_rfl))]; exact ⟨rfl, rfl⟩)
    (fun os started H enc _ => leLonger_lifted os started H enc)
#print axioms leLonger_holds
end Go.Proofs.Ytbgakgljgdiimaa
