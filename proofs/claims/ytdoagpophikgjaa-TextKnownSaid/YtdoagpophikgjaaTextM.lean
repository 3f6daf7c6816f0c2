/-
  Package text: the property TextLengths.
-/
import Derived.Test.YtdoagpophikgjaaTextI
import Derived.Test.YtdoagpophikgjaaTextL
import Derived.Test.YtdoagpophikgjaaRefRow
import Derived.Test.YtdoagpophikgjaaCut
import Derived.Test.YtdoagpophikgjaaMake
import Derived.Deep.DeepCutAuto
namespace Go.Proofs.Ytdoagpophikgjaa
open Go.RowKit Go.Acc
theorem put_no (A : Option Addr) (n c u : Nat) (x : Int) (l : List UInt8) (w : World) (h : IsB w A n l) (hc : n ≤ c) (hn : n ≤ 1099511627776) (hu : (u : Int) < 18446744073709551616) (hx : isW x = true) (hf : fitsU x.toNat u = false) :
    Calls Try.prog 50 #[.slice A n c, .int .i64 x, .int .u64 u] w (PutW w [] 10) := by
  have := put_spec A n c u x l w h hc hn hu
  rw [hf, show putB l x u false = [] from if_neg (by simp), show putE x false = 10 from by unfold putE; rw [if_pos hx]; rfl] at this
  exact this
theorem put_yes (A : Option Addr) (n c u : Nat) (x : Int) (l : List UInt8) (w : World) (h : IsB w A n l) (hc : n ≤ c) (hn : n ≤ 1099511627776) (hu : (u : Int) < 18446744073709551616) (hx : isW x = true) (hf : fitsU x.toNat u = true) :
    Calls Try.prog 50 #[.slice A n c, .int .i64 x, .int .u64 u] w (PutW w (l ++ leBytes x.toNat u) 0) := by
  have := put_spec A n c u x l w h hc hn hu
  rw [hf, show putB l x u true = l ++ leBytes x.toNat u from if_pos ⟨hx, rfl⟩, show putE x true = 0 from by unfold putE; rw [if_pos hx]; rfl] at this
  exact this
theorem wd_facts (m : Int) : ∃ W : Nat, isW (W : Int) = true ∧ wrap64 (2 ^ (m % 4).toNat) = (W : Int) ∧ 1 ≤ W ∧ W ≤ 8 := by
  have : m % 4 = 0 ∨ m % 4 = 1 ∨ m % 4 = 2 ∨ m % 4 = 3 := by omega
  rcases this with e | e | e | e <;> rw [e]
  · exact ⟨1, rfl, by simp [wrap64], by omega, by omega⟩
  · exact ⟨2, rfl, by simp [wrap64], by omega, by omega⟩
  · exact ⟨4, rfl, by simp [wrap64], by omega, by omega⟩
  · exact ⟨8, rfl, by simp [wrap64], by omega, by omega⟩
theorem mul_facts (W K : Nat) (hW : W ≤ 8) (hK : K < 4) : ∃ a0 : Nat, a0 % W = 0 ∧ a0 ≤ 24 ∧ wrap64 ((W : Int) * (K : Int)) = (a0 : Int) := by
  have h : W * K ≤ 8 * 3 := Nat.mul_le_mul hW (by omega)
  refine ⟨W * K, Nat.mul_mod_right .., h, ?_⟩
  rw [← Int.natCast_mul]
  generalize W * K = x at h
  exact wrap64_in _ (by omega)
set_option maxRecDepth 100000 in
set_option maxHeartbeats 4000000 in
theorem textlengths_spec (A : Option Addr) (n c : Nat) (m : Int) (u : Nat) (k : Int) (l : List UInt8) (w : World) (h : IsB w A n l) (hc : n ≤ c) (hu : (u : Int) < 18446744073709551616) :
    Calls Try.prog 12 #[.slice A n c, .int .i64 m, .agg #[.int .u64 u, .int .i64 k]] w fun e w' => e = .returned (.bool true) ∧ Below w.heap.size w w' := by
  obtain ⟨M, hMn, hMB, hmin, hcut⟩ := cut_facts A n c 300 300 rfl hc
  obtain ⟨W, hVW, hsh, hW1, hW8⟩ := wd_facts m
  obtain ⟨K, hK, hK4⟩ : ∃ K : Nat, k % 4 = K ∧ K < 4 := ⟨(k % 4).toNat, by omega, by omega⟩
  obtain ⟨a0, hdvd, ha24, hmul⟩ := mul_facts W K hW8 hK4
  have HSH := Lib.hid hsh
  have HMUL := Lib.hid hmul
  clear hsh hmul
  obtain ⟨Z, hZ1, hZ2, hmk⟩ := make_b a0 (by omega)
  have HZ2 := Lib.hid hZ2
  have HK := Lib.hid hK
  have HDV := Lib.hid hdvd
  have HU := Shut.mk hu
  have HVW := Lib.hid hVW
  have HM := Lib.hid ((h.take bc_len hMn).alloc (.cells #[.int .u64 u, .int .i64 k] 66))
  have HB := Lib.hid ((Below.refl w.heap.size w).alloc (Nat.le_refl _) (.cells #[.int .u64 u, .int .i64 k] 66))
  have hlen := HM.out.1
  generalize l.take M = inn at HM hlen
  clear h hZ1 hZ2 hK hdvd hu hVW
  have hsh := HSH.out
  have hmul := HMUL.out
  go_enter Try.func12, Try.ntmps12
  go_wp2_with fail
  go_at_call 19
  refine (bring_spec m 4 _ (by decide) (by decide)).mono ?_
  rintro e w1 ⟨rfl, rfl⟩
  go_wp2_with fail
  go_at_call 19
  refine (bring_spec k 4 _ (by decide) (by decide)).mono ?_
  rw [HK.out]
  rintro e w1 ⟨rfl, rfl⟩
  go_wp2_with fail
  clear hsh hmul hmk
  have HI := Lib.hid (isb_lit2 w (.cells #[.int .u64 u, .int .i64 k] 66) Z (List.replicate a0 0) a0 (by simp) HZ2.out)
  replace HM := Lib.hid (HM.out.alloc (.cells Z 5))
  replace HB := Lib.hid (HB.out.alloc HB.out.size (.cells Z 5))
  cases hf : fitsU W u with
  | false =>
    have HF := Lib.hid hf
    clear hf
    go_at_call 50
    refine (put_no _ a0 a0 u W _ _ HI.out (Nat.le_refl _) (by omega) HU.out HVW.out HF.out).mono ?_
    rintro e w1 ⟨A1, n1, c1, rfl, hO1, hb1⟩
    replace HB := Lib.hid (pure_below HB.out hb1)
    clear hO1 hb1 HI HM
    go_wp2_with fail
    go_at_call 46
    refine (textworks_spec _).mono ?_
    rintro e w9 ⟨rfl, hb⟩
    replace HB := Lib.hid (pure_below HB.out hb)
    clear hb
    go_wp2
    go_ret
    exact ⟨rfl, HB.out⟩
  | true =>
    have HF := Lib.hid hf
    have HU8 := Lib.hid (fits_lt hf HU.out)
    clear hf
    go_at_call 50
    refine (put_yes _ a0 a0 u W _ _ HI.out (Nat.le_refl _) (by omega) HU.out HVW.out HF.out).mono ?_
    rintro e w1 ⟨A1, n1, c1, rfl, hO1, hb1⟩
    have hn1 : n1 = a0 + W := by rw [← hO1.1]; simp [leBytes_length]
    replace HB := Lib.hid (pure_below HB.out hb1)
    replace HM := Lib.hid (HM.out.pure hb1)
    rw [Int.toNat_natCast] at hO1
    have HO := Lib.hid (hO1.rebase (show w.heap.size ≤ ((w.alloc (.cells #[.int .u64 u, .int .i64 k] 66)).alloc (.cells Z 5)).heap.size by simp; omega))
    have ha1 : n1 ≤ 32 := by omega
    have HA := Lib.hid hn1
    have hB1 := HB.out.size
    clear hO1 hb1 HI hn1
    go_wp2_with (at_builtin; refine wpl_app _ rfl (.tmp 53) (.tmp 54) _ rfl 5 _ 1 1 Try.underlying22 info_b rfl (by omega) bc_len bc_one _ _ _ _ _ rfl HO.out _ _ _ _ rfl HM.out (by omega) hB1 ?_; intro A2 c2 w2 hown hfr hat; have HO2 := Lib.hid hown; have HF2 := Lib.hid hfr; clear hown hfr hat)
    have HB := Lib.hid (below_fr HB.out HF2.out (by rintro j ⟨ad, h, rfl⟩; exact (HO.out.addr ad h).2.1))
    clear HF2 HO HM hB1
    obtain ⟨L0, hL0⟩ : ∃ L, List.replicate a0 0 ++ leBytes W u ++ inn = L := ⟨_, rfl⟩
    rw [hL0] at HO2
    have HL0 := Lib.hid hL0
    clear hL0
    go_loopw [10] (fun v wr => ∃ (A : Option Addr) (c x : Nat) (pd : List UInt8), v = .slice A x c ∧ OwnB wr w.heap.size A x c (L0 ++ pd) ∧ pd.length ≤ 1 ∧ (x % 2 = 1 → pd = []) ∧ Below w.heap.size w wr ∧ x = n1 + M + pd.length) (fun v _ => match v with | .slice _ n _ => n % 2 | _ => 0)
    case atStart => exact ⟨A2, c2, _, [], rfl, by rw [List.append_nil]; exact HO2.out, by simp, fun _ => rfl, HB.out, rfl⟩
    case round =>
      obtain ⟨A3, c3, x, pd, rfl, hO, hp1, hp2, hb, hx⟩ := hrel
      have HO3 := Lib.hid hO
      replace HB := Lib.hid hb
      have HP2 := Lib.hid hp2
      have HXE := Lib.hid hx
      have hx2 : x ≤ 400 := by omega
      clear hO hb hp2 HO2 hx
      by_cases hx : x % 2 = 1
      · have ht : ((x : Int) % 2 != 0) = true := by rw [bne_iff_ne]; omega
        obtain rfl := HP2.out hx
        have HX := Lib.hid hx
        clear hx
        go_wp2_with (at_builtin; refine wpl_app _ rfl (.tmp 60) (.tmp 61) _ rfl 5 _ 1 1 Try.underlying22 info_b rfl (by omega) bc_len bc_one _ _ _ _ _ rfl (HO3.out.pure ((Below.refl _ _).alloc (Nat.le_refl _) _)) _ _ _ _ rfl (isb_new _ _ (7 : UInt8) rfl) (by omega) (by have := HB.out.size; simp; omega) ?_; intro A4 c4 w4 hown hfr hat; have HO4 := Lib.hid hown; have HF4 := Lib.hid hfr; clear hown hfr hat)
        go_roundw
        case rel =>
          refine ⟨A4, c4, x + 1, [7], rfl, ?_, by simp, fun h => ?_, ?_, ?_⟩
          · have := HO4.out
            rw [List.append_nil] at this
            exact this
          · have := HX.out; omega
          · exact below_fr (HB.out.alloc HB.out.size _) HF4.out (by rintro j ⟨ad, h, rfl⟩; exact (HO3.out.addr ad h).2.1)
          · have := HXE.out
            simp at this ⊢
            exact this
        case measure => have := HX.out; simp; omega
      · have ht : ((x : Int) % 2 != 0) = false := by rw [bne_eq_false_iff_eq]; omega
        clear hx
        go_wp2_with fail
        obtain ⟨d, hd⟩ : ∃ d, M + pd.length = d := ⟨_, rfl⟩
        have hxe := HXE.out
        have hxd : x = n1 + d := by omega
        have hd400 : d ≤ 301 := by omega
        have hcv : IntKind.u64.wrap ((x : Int) - (n1 : Int)) = (d : Int) := u64_in _ (by omega) |>.trans (by omega)
        rw [hcv]
        clear hcv
        have hdl : (inn ++ pd).length = d := by rw [List.length_append, hlen]; exact hd
        have hll := len_loads (z := List.replicate a0 (0 : UInt8)) (inn := inn ++ pd) HVW.out HU8.out (by omega)
        rw [hdl, List.length_replicate, ← HA.out, ← hxd] at hll
        rw [show List.replicate a0 0 ++ leBytes W u ++ (inn ++ pd) ++ leBytes 2 d = L0 ++ pd ++ leBytes 2 d by rw [← HL0.out]; simp [List.append_assoc]] at hll
        go_at_call 50
        refine (put_yes _ x c3 d 2 _ _ HO3.out.is HO3.out.cap.1 (by omega) (by omega) (by decide) (show fitsU 2 d = true from decide_eq_true (.inr (by omega)))).mono ?_
        rintro e w5 ⟨A4, n4, c4, rfl, hO4, hb4⟩
        rw [show (2 : Int).toNat = 2 from rfl] at hO4
        have hn4 : n4 = x + 2 := by
          have h1 := HO3.out.1
          have h2 := hO4.1
          rw [List.length_append, h1, leBytes_length] at h2
          exact h2.symm
        have hly := hO4.1
        generalize L0 ++ pd ++ leBytes 2 d = y at hO4 hll hly
        replace HB := Lib.hid (pure_below HB.out hb4)
        have HI := Lib.hid hO4.is
        have hc4 := hO4.cap.1
        have hl1 : n1 % W = 0 := by rw [HA.out, Nat.add_mod_right]; exact HDV.out
        have hl2 : W ≤ n1 := by have := HA.out; omega
        have hsb := len_blob (d := d) HVW.out hl1 hl2 hll.1 (by rw [← hxd]; exact hll.2) (by omega)
        have hst := len_str (d := d) HVW.out hl1 hl2 hll.1 (by rw [← hxd]; exact hll.2) (by omega)
        rw [← hxd] at hsb hst
        obtain ⟨R, hR⟩ : ∃ R, R = d + 2 := ⟨_, rfl⟩
        have hRn : n4 = n1 + R := by omega
        have HSB := Lib.hid hsb
        have HST := Lib.hid hst
        have HRN := Lib.hid hRn
        have HLY := Lib.hid hly
        have hR400 : R ≤ 303 := by omega
        have hn400 : n4 ≤ 500 := by omega
        have hn4x : x + 2 ≤ n4 := by omega
        have hwl : Hid (IntKind.u64.wrap ((n4 : Int) - (n1 : Int)) = (R : Int)) := Lib.hid (u64_in _ (by omega) |>.trans (by omega))
        clear hO4 hb4 hll hl1 hl2 hsb hst hR hRn hly hn4 hxd hdl hd hxe HO3 HXE HP2
        by_cases hbig : R < u
        · have hS := HSB.out.1 (by have := HRN.out; have := HLY.out; omega)
          have hT := HST.out.1 (by have := HRN.out; have := HLY.out; omega)
          have HS1 := Lib.hid hS.1
          have HS2 := Lib.hid hS.2
          have HT1 := Lib.hid hT.1
          have HT2 := Lib.hid hT.2
          have hdec : decide (R < u) = true := decide_eq_true hbig
          clear hS hT hbig
          go_wp2_with fail
          go_at_call 47
          refine (of23_spec x 2 25 W _).mono ?_
          rintro e wn ⟨rfl, hb⟩
          replace HB := Lib.hid (pure_below HB.out hb)
          replace HI := Lib.hid (HI.out.pure hb)
          clear hb
          go_wp2_with fail
          go_at_call 41
          refine (blobt_is A4 n4 c4 x 2 25 W y [] _ 211 _ HI.out hc4 (by omega) HS2.out HS1.out rfl).mono ?_
          rintro e wn ⟨rfl, hb⟩
          replace HB := Lib.hid (pure_below HB.out hb)
          replace HI := Lib.hid (HI.out.pure hb)
          clear hb
          go_wp2_with fail
          go_at_call 47
          refine (of23_spec x 2 5 W _).mono ?_
          rintro e wn ⟨rfl, hb⟩
          replace HB := Lib.hid (pure_below HB.out hb)
          replace HI := Lib.hid (HI.out.pure hb)
          clear hb
          go_wp2_with fail
          go_at_call 39
          refine (strt_is A4 n4 c4 x 2 5 W y [] _ 211 _ HI.out hc4 (by omega) HT2.out HT1.out rfl).mono ?_
          rintro e wn ⟨rfl, hb⟩
          replace HB := Lib.hid (pure_below HB.out hb)
          replace HI := Lib.hid (HI.out.pure hb)
          clear hb
          have hw := hwl.out
          go_wp2_with (first | (go_at_call 49; refine (is23_yes _ _ _).mono ?_; rintro e w' ⟨rfl, rfl⟩))
          go_wp2_with fail
          go_at_call 46
          refine (textworks_spec _).mono ?_
          rintro e w9 ⟨rfl, hb⟩
          replace HB := Lib.hid (pure_below HB.out hb)
          clear hb
          go_wp2
          go_ret
          exact ⟨rfl, HB.out⟩
        · have hu400 : u ≤ 303 := by omega
          have huR : u ≤ R := by omega
          have hS := HSB.out.2 (by have := HRN.out; have := HLY.out; omega)
          have hdec : decide (R < u) = false := decide_eq_false hbig
          obtain ⟨E, hE⟩ : ∃ E, n1 + u = E := ⟨_, rfl⟩
          have hE4 : E ≤ n4 := by have := HRN.out; omega
          obtain ⟨X, hX1, hX2⟩ := cut_any A4 n4 c4 n1 E (by omega) hE4 hc4
          rw [← hE, show n1 + u - n1 = u by omega, Int.natCast_add] at hX1
          rw [← hE, show n1 + u - n1 = u by omega] at hX2
          have HX2 := Lib.hid hX2
          have HEE := Lib.hid hE
          have HS1 := Lib.hid hS.1
          obtain ⟨S, hSS⟩ : ∃ S, (y.drop n1).take u = S := ⟨_, rfl⟩
          have HS2 := Lib.hid (hS.2.trans hSS)
          have HSS := Lib.hid hSS
          clear hS hbig hX2 hE hSS
          rcases Nat.lt_trichotomy u R with hlt | rfl | hgt
          · have hlt2 : n1 + u < y.length := by have := HRN.out; have := HLY.out; omega
            have hun : n1 + u < n4 := by have := HRN.out; omega
            obtain ⟨c0, hc0⟩ : ∃ c0, y[n1 + u] = c0 := ⟨_, rfl⟩
            have hne : (u == R) = false := beq_eq_false_iff_ne.mpr (by omega)
            by_cases hz : c0 = 0
            · have hT := HST.out.2.2 hlt2 (hc0.trans hz)
              have HT1 := Lib.hid hT.1
              have HT2 := Lib.hid (hT.2.trans HSS.out)
              have HC0 := Lib.hid (hc0.trans hz)
              clear hT hc0 hz hlt
              go_wp2_with fail
              go_at_call 47
              refine (of23_spec x 2 25 W _).mono ?_
              rintro e wn ⟨rfl, hb⟩
              replace HB := Lib.hid (pure_below HB.out hb)
              replace HI := Lib.hid (HI.out.pure hb)
              clear hb
              go_wp2_with fail
              go_at_call 41
              refine (blobt_is A4 n4 c4 x 2 25 W y S _ 0 _ HI.out hc4 (by omega) HS2.out HS1.out rfl).mono ?_
              rintro e wn ⟨rfl, hb⟩
              replace HB := Lib.hid (pure_below HB.out hb)
              replace HI := Lib.hid (HI.out.pure hb)
              clear hb
              go_wp2_with fail
              go_at_call 47
              refine (of23_spec x 2 5 W _).mono ?_
              rintro e wn ⟨rfl, hb⟩
              replace HB := Lib.hid (pure_below HB.out hb)
              replace HI := Lib.hid (HI.out.pure hb)
              clear hb
              go_wp2_with fail
              go_at_call 39
              refine (strt_is A4 n4 c4 x 2 5 W y S _ 0 _ HI.out hc4 (by omega) HT2.out HT1.out rfl).mono ?_
              rintro e wn ⟨rfl, hb⟩
              replace HB := Lib.hid (pure_below HB.out hb)
              replace HI := Lib.hid (HI.out.pure hb)
              clear hb
              obtain ⟨b, off, rfl, hkk, hcell⟩ := isb_at HI.out (k := n1 + u) hun
              rw [HC0.out] at hcell
              have hlt3 : n1 + u < n4 := hun
              have hlt4 : (n1 : Int) + u < n4 := by omega
              have hw := hwl.out
              have hst := run_str (c := c4 - n1) (HX2.out _ _ HI.out)
              rw [HSS.out] at hst
              go_wp2_with (first | (go_at_call 49; refine (is23_yes _ _ _).mono ?_; rintro e w' ⟨rfl, rfl⟩))
              go_wp2_with fail
              go_at_call 46
              refine (textworks_spec _).mono ?_
              rintro e w9 ⟨rfl, hb⟩
              replace HB := Lib.hid (pure_below HB.out hb)
              clear hb
              go_wp2
              go_ret
              exact ⟨rfl, HB.out⟩
            · have hT := HST.out.2.1 hlt2 (by rw [hc0]; exact hz)
              have HT1 := Lib.hid hT.1
              have HT2 := Lib.hid hT.2
              have hcz : (c0.toNat == 0) = false := beq_eq_false_iff_ne.mpr (fun e => hz (UInt8.toNat_inj.1 e))
              have hcz2 : ((c0.toNat : Int) != 0) = true := by rw [bne_iff_ne]; intro e; exact hz (UInt8.toNat_inj.1 (by simpa using e))
              have HC0 := Lib.hid hc0
              clear hT hc0 hz hlt
              go_wp2_with fail
              go_at_call 47
              refine (of23_spec x 2 25 W _).mono ?_
              rintro e wn ⟨rfl, hb⟩
              replace HB := Lib.hid (pure_below HB.out hb)
              replace HI := Lib.hid (HI.out.pure hb)
              clear hb
              go_wp2_with fail
              go_at_call 41
              refine (blobt_is A4 n4 c4 x 2 25 W y S _ 0 _ HI.out hc4 (by omega) HS2.out HS1.out rfl).mono ?_
              rintro e wn ⟨rfl, hb⟩
              replace HB := Lib.hid (pure_below HB.out hb)
              replace HI := Lib.hid (HI.out.pure hb)
              clear hb
              go_wp2_with fail
              go_at_call 47
              refine (of23_spec x 2 5 W _).mono ?_
              rintro e wn ⟨rfl, hb⟩
              replace HB := Lib.hid (pure_below HB.out hb)
              replace HI := Lib.hid (HI.out.pure hb)
              clear hb
              go_wp2_with fail
              go_at_call 39
              refine (strt_is A4 n4 c4 x 2 5 W y [] _ 213 _ HI.out hc4 (by omega) HT2.out HT1.out rfl).mono ?_
              rintro e wn ⟨rfl, hb⟩
              replace HB := Lib.hid (pure_below HB.out hb)
              replace HI := Lib.hid (HI.out.pure hb)
              clear hb
              obtain ⟨b, off, rfl, hkk, hcell⟩ := isb_at HI.out (k := n1 + u) hun
              rw [HC0.out] at hcell
              have hlt3 : n1 + u < n4 := hun
              have hlt4 : (n1 : Int) + u < n4 := by omega
              have hw := hwl.out
              have hst := run_str (c := c4 - n1) (HX2.out _ _ HI.out)
              rw [HSS.out] at hst
              go_wp2_with (first | (go_at_call 49; refine (is23_yes _ _ _).mono ?_; rintro e w' ⟨rfl, rfl⟩))
              go_wp2_with fail
              go_at_call 46
              refine (textworks_spec _).mono ?_
              rintro e w9 ⟨rfl, hb⟩
              replace HB := Lib.hid (pure_below HB.out hb)
              clear hb
              go_wp2
              go_ret
              exact ⟨rfl, HB.out⟩
          · have hT := HST.out.1 (by have := HRN.out; have := HLY.out; omega)
            have HT1 := Lib.hid hT.1
            have HT2 := Lib.hid hT.2
            clear hT
            go_wp2_with fail
            go_at_call 47
            refine (of23_spec x 2 25 W _).mono ?_
            rintro e wn ⟨rfl, hb⟩
            replace HB := Lib.hid (pure_below HB.out hb)
            replace HI := Lib.hid (HI.out.pure hb)
            clear hb
            go_wp2_with fail
            go_at_call 41
            refine (blobt_is A4 n4 c4 x 2 25 W y S _ 0 _ HI.out hc4 (by omega) HS2.out HS1.out rfl).mono ?_
            rintro e wn ⟨rfl, hb⟩
            replace HB := Lib.hid (pure_below HB.out hb)
            replace HI := Lib.hid (HI.out.pure hb)
            clear hb
            go_wp2_with fail
            go_at_call 47
            refine (of23_spec x 2 5 W _).mono ?_
            rintro e wn ⟨rfl, hb⟩
            replace HB := Lib.hid (pure_below HB.out hb)
            replace HI := Lib.hid (HI.out.pure hb)
            clear hb
            go_wp2_with fail
            go_at_call 39
            refine (strt_is A4 n4 c4 x 2 5 W y [] _ 211 _ HI.out hc4 (by omega) HT2.out HT1.out rfl).mono ?_
            rintro e wn ⟨rfl, hb⟩
            replace HB := Lib.hid (pure_below HB.out hb)
            replace HI := Lib.hid (HI.out.pure hb)
            clear hb
            have hw := hwl.out
            have hst := run_str (c := c4 - n1) (HX2.out _ _ HI.out)
            rw [HSS.out] at hst
            go_wp2_with (first | (go_at_call 49; refine (is23_yes _ _ _).mono ?_; rintro e w' ⟨rfl, rfl⟩))
            go_wp2_with fail
            go_at_call 46
            refine (textworks_spec _).mono ?_
            rintro e w9 ⟨rfl, hb⟩
            replace HB := Lib.hid (pure_below HB.out hb)
            clear hb
            go_wp2
            go_ret
            exact ⟨rfl, HB.out⟩
          · omega

open Go.ChangeShapes Go.WideShapes Go.ChangeAt
theorem len_arg {H : Type} {enc : TypeId × Value → H} {W : World} {base : Nat} {v : Value} {d : DataW H} {p : List MemPlace} (k : Value.okWide Try.prog W .any base 66 v) (h : DataW.Trod enc Try.prog W 0 (fun _ => true) true 66 v d p) :
    ∃ (u : Nat) (x : Int), v = .agg #[.int .u64 u, .int .i64 x] ∧ (u : Int) < 18446744073709551616 := by
  obtain ⟨v0, v1, y0, y1, n, rfl, _, _, t0, t1⟩ := Joins.open_agg2 Try.underlying66 (by kernel_rfl) (by kernel_rfl) k h
  obtain ⟨n0, e0, _, w0⟩ := DataW.trod_int Try.underlying49 t0
  obtain ⟨n1, e1, _, w1⟩ := DataW.trod_int Try.underlying3 t1
  obtain rfl : v0 = .int .u64 n0 := by simpa using e0
  obtain rfl : v1 = .int .i64 n1 := by simpa using e1
  have := u64_bd w0
  obtain ⟨u, rfl⟩ := Int.eq_ofNat_of_zero_le this.1
  exact ⟨u, n1, rfl, by have := this.2; omega⟩
theorem textLengths_run {H : Type} {enc : TypeId × Value → H} {v0 v1 v2 : Value} {d0 d1 d2 : DataW H} {p0 p1 p2 : List MemPlace} (W : World) (base : Nat) (k0 : Value.okWide Try.prog W .any base 22 v0) (k1 : Value.okWide Try.prog W .any base 3 v1) (k2 : Value.okWide Try.prog W .any base 66 v2)
    (h0 : DataW.Trod enc Try.prog W 0 (fun _ => true) true 22 v0 d0 p0) (h1 : DataW.Trod enc Try.prog W 0 (fun _ => true) true 3 v1 d1 p1) (h2 : DataW.Trod enc Try.prog W 0 (fun _ => true) true 66 v2 d2 p2) :
    Calls Try.prog 12 #[v0, v1, v2] W fun e w' => e = .returned (.bool true) ∧ Below W.heap.size W w' := by
  obtain ⟨A, n, c, l, rfl, hI, hc, _⟩ := bytes_arg k0 h0
  obtain ⟨m, rfl, _⟩ := int_arg k1 h1
  obtain ⟨u, x, rfl, hu⟩ := len_arg k2 h2
  exact textlengths_spec A n c m u x l W hI hc hu

set_option maxRecDepth 100000 in
theorem textLengths_lifted (os : Os) (started : os.Started) (H : Type) (enc : TypeId × Value → H) :
    ReturnsInHanded {} Try.checked os 12 .any (Rows.textLengthsSpec.pre6 enc Try.prog Try.f12 Rows.textLengthsRow.domain false) (Rows.textLengthsSpec.post enc Try.prog Try.f12 false true false false) := by
  refine returnsInHanded_of_change (C := Try.checked) acc_own started (by kernel_rfl) Try.func12
    (ChangeSpec.witness6 (enc := enc) (C := Try.checked) false ⟨#[], #[.slice none 0 0, .int .i64 0, .agg #[.int .u64 0, .int .i64 0]], []⟩ 8 (by kernel_rfl) (by kernel_rfl) (by kernel_rfl) (by kernel_rfl)) ?_
  intro W base args ds gs before hval0 hW hcnd _
  have hval : ∀ (j : Nat) t v, Try.f12.params[j]? = some t → args[j]? = some v → Value.okWide Try.prog W .any base t v := hval0
  have hW' := hW
  obtain ⟨p, q, hA0, hV, rfl, hfz, hnd⟩ := hW
  have hA : DataW.TrodAll enc Try.prog W 0 (fun _ => true) true Try.f12.params.toList args.toList ds p := hA0
  rw [Try.params12] at hA
  rw [Try.params12] at hval
  obtain ⟨v0, vs0, d0, ds0, p0, q0, hargs, rfl, rfl, h0, r0⟩ := trodAll_cons hA
  obtain ⟨v1, vs1, d1, ds1, p1, q1, rfl, rfl, rfl, h1, r1⟩ := trodAll_cons r0
  obtain ⟨v2, vs2, d2, ds2, p2, q2, rfl, rfl, rfl, h2, r2⟩ := trodAll_cons r1
  obtain ⟨rfl, rfl, rfl⟩ := trodAll_nil r2
  obtain rfl : args = #[v0, v1, v2] := by cases args; simp_all
  obtain ⟨rfl, rfl⟩ := trodVars_none hV
  have k0 := hval 0 22 v0 rfl rfl
  have k1 := hval 1 3 v1 rfl rfl
  have k2 := hval 2 66 v2 rfl rfl
  clear hA0 hval0
  refine (textLengths_run (enc := enc) W base k0 k1 k2 h0 h1 h2).mono fun e W' ⟨he, bel⟩ => ?_
  subst he
  exact ⟨_, rfl, _, _, _, [], _, [], hW', trodAll_mk1 (shut_bool Try.underlying4 _), (trodAll_cons_mk (below_arg acc_laidOut (by kernel_rfl) (of_decide_eq_true (by kernel_rfl)) h0 bel) (trodAll_cons_mk (below_arg acc_laidOut (by kernel_rfl) (of_decide_eq_true (by kernel_rfl)) h1 bel) (trodAll_cons_mk (below_arg acc_laidOut (by kernel_rfl) (of_decide_eq_true (by kernel_rfl)) h2 bel) trodAll_mk0))), rfl, bel.frame _, fun h => by cases h⟩

theorem textLengths_holds : Rows.TextLengthsSaid :=
  OpenClaim.holds_of_wide 12 Try.f12 rfl rfl rfl rfl rfl rfl rfl ⟨rfl, rfl, rfl, rfl, rfl⟩ rfl rfl rfl rfl rfl (by kernel_rfl) Try.func12 (by kernel_rfl)
    (of_decide_eq_true (by kernel_rfl)) (by unfold Func.isWrapper; rw [if_neg (of_decide_eq_false (by kernel_rfl))]; exact ⟨rfl, rfl⟩)
    (fun os started H enc _ => textLengths_lifted os started H enc)
#print axioms textLengths_holds
end Go.Proofs.Ytdoagpophikgjaa
