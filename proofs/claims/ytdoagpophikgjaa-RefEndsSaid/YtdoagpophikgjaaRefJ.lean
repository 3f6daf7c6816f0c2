/-
  Package ref: the property RefEnds.
-/
import Derived.Test.YtdoagpophikgjaaRefRow
import Derived.Test.YtdoagpophikgjaaCut
import Derived.Test.YtdoagpophikgjaaMake
namespace Go.Proofs.Ytdoagpophikgjaa
open Go.RowKit Go.Acc
/-- The error and the root of so many bytes before a tag and a width. -/
def endE (n : Nat) (c : UInt8) (x : Nat) : Int := if n = 0 then 210 else if unE c ≠ 0 then unE c else if (n : Int) - x < 0 ∨ ((n : Int) - x) % x ≠ 0 then 210 else 0
def endR (n : Nat) (c : UInt8) (x : Nat) : Int × Int × Int × Int := if endE n c x = 0 then ((n : Int) - x, (x : Int), unT c, unW c) else (0, 0, 0, 0)
theorem last_app {l : List UInt8} {c d : UInt8} : (l ++ [c, d]).getD ((l ++ [c, d]).length - 1) 0 = d := by
  simp [List.getD_eq_getElem?_getD]
theorem last2_app {l : List UInt8} {c d : UInt8} : (l ++ [c, d]).getD ((l ++ [c, d]).length - 2) 0 = c := by
  simp [List.getD_eq_getElem?_getD]
theorem rootE_app (l : List UInt8) (c d : UInt8) (hd : isW (d.toNat : Int) = true) : rootE (l ++ [c, d]) = endE l.length c d.toNat := by
  unfold rootE endE
  rw [last_app, last2_app, hd, show (l ++ [c, d]).length = l.length + 2 by simp]
  by_cases h : l.length = 0
  · rw [if_pos (.inl (by omega)), if_pos h]
  · rw [if_neg (by simp; omega), if_neg h]
    by_cases hu : unE c = 0
    · rw [show ((l.length + 2 : Nat) : Int) - 2 - (d.toNat : Int) = (l.length : Int) - d.toNat by omega, hu]
    · rw [if_pos hu, if_pos hu]
theorem rootR_app (l : List UInt8) (c d : UInt8) (hd : isW (d.toNat : Int) = true) : rootR (l ++ [c, d]) = endR l.length c d.toNat := by
  unfold rootR endR
  rw [rootE_app l c d hd, last_app, last2_app, show (l ++ [c, d]).length = l.length + 2 by simp, show ((l.length + 2 : Nat) : Int) - 2 - (d.toNat : Int) = (l.length : Int) - d.toNat by omega]
/-- If a third byte follows and there is a root, it lies before its last two. -/
theorem rootR_sum (l : List UInt8) (h : rootE l = 0) : (rootR l).1 + (rootR l).2.1 = (l.length : Int) - 2 := by
  unfold rootR
  rw [if_pos h]
  exact Int.sub_add_cancel _ _
theorem quad (r : Int × Int × Int × Int) : ∃ a b c d, r = (a, b, c, d) := ⟨_, _, _, _, rfl⟩
theorem bring_wd (n : Int) : n % 4 = 0 ∨ n % 4 = 1 ∨ n % 4 = 2 ∨ n % 4 = 3 := by omega
theorem ends_cases (n : Nat) (c : UInt8) (x : Nat) (hx : 0 < x) : (n = 0 ∧ endE n c x = 210) ∨ (0 < n ∧ unE c ≠ 0 ∧ unE c = 20 ∧ endE n c x = 20) ∨ (0 < n ∧ unE c = 0 ∧ n < x ∧ endE n c x = 210) ∨
    (0 < n ∧ unE c = 0 ∧ x ≤ n ∧ (((n : Int) - x) % x ≠ 0) ∧ endE n c x = 210) ∨ (0 < n ∧ unE c = 0 ∧ x ≤ n ∧ ((n : Int) - x) % x = 0 ∧ endE n c x = 0 ∧ endR n c x = ((n : Int) - x, (x : Int), unT c, unW c)) := by
  by_cases h : n = 0
  · exact .inl ⟨h, if_pos h⟩
  by_cases hu : unE c = 0
  · by_cases h1 : n < x
    · refine .inr (.inr (.inl ⟨by omega, hu, h1, ?_⟩))
      unfold endE
      rw [if_neg h, if_neg (by simpa using hu), if_pos (.inl (by omega))]
    · by_cases h2 : ((n : Int) - x) % x = 0
      · have e : endE n c x = 0 := by
          unfold endE
          rw [if_neg h, if_neg (by simpa using hu), if_neg (by rintro (h3 | h3); omega; exact h3 h2)]
        exact .inr (.inr (.inr (.inr ⟨by omega, hu, by omega, h2, e, if_pos e⟩)))
      · refine .inr (.inr (.inr (.inl ⟨by omega, hu, by omega, h2, ?_⟩)))
        unfold endE
        rw [if_neg h, if_neg (by simpa using hu), if_pos (.inr h2)]
  · have h20 : unE c = 20 := by
      unfold unE at hu ⊢
      split at hu
      · exact absurd rfl hu
      · rename_i h; rw [if_neg h]
    refine .inr (.inl ⟨by omega, hu, h20, ?_⟩)
    unfold endE
    rw [if_neg h, if_pos hu, h20]
theorem is_blk_n {α : Type} {f : α → List Value} {w : World} {g n : Nat} {t : TypeId} {cs : Array Value} (l : List α) (hB : Blk w g t cs) (hn : l.length = n) (h : cs.toList = l.flatMap f) : Is f w (some ⟨g, 0, none⟩) n l := by
  refine ⟨hn, fun j u hu => ⟨_, _, rfl, ?_⟩⟩
  rw [Nat.zero_add, hB.cell j]
  rw [← h] at hu
  simpa using hu
set_option maxRecDepth 100000 in
set_option maxHeartbeats 4000000 in
theorem refends_spec (A : Option Addr) (n c : Nat) (m : Int) (b0 b1 : UInt8) (l : List UInt8) (w : World) (h : IsB w A n l) (hc : n ≤ c) :
    Calls Try.prog 4 #[.slice A n c, .int .i64 m, .agg #[.int .u8 (b0.toNat : Int), .int .u8 (b1.toNat : Int)]] w fun e w' => e = .returned (.bool true) ∧ Below w.heap.size w w' := by
  obtain ⟨M, hMn, hMB, hmin, hcut⟩ := cut_facts A n c 100 100 rfl hc
  have HM := Lib.hid ((h.take bc_len hMn).alloc (.cells #[.int .u8 (b0.toNat : Int), .int .u8 (b1.toNat : Int)] 32))
  have HB := Lib.hid ((Below.refl w.heap.size w).alloc (Nat.le_refl _) (.cells #[.int .u8 (b0.toNat : Int), .int .u8 (b1.toNat : Int)] 32))
  obtain ⟨Z, hZ1, hZ2, hmk⟩ := make_b M (by omega)
  clear h
  obtain ⟨D, hVW, hsh, hu8⟩ : ∃ D : UInt8, isW (D.toNat : Int) = true ∧ wrap64 (2 ^ (m % 4).toNat) = (D.toNat : Int) ∧ (D.toNat : Int) % 256 = (D.toNat : Int) := by
    rcases bring_wd m with e | e | e | e <;> rw [e]
    · exact ⟨1, rfl, by simp [wrap64], by decide⟩
    · exact ⟨2, rfl, by simp [wrap64], by decide⟩
    · exact ⟨4, rfl, by simp [wrap64], by decide⟩
    · exact ⟨8, rfl, by simp [wrap64], by decide⟩
  have hD1 : 1 ≤ D.toNat ∧ D.toNat ≤ 8 := by have := isW_iff.1 hVW; omega
  have hD2 := hD1.1
  have hD3 := hD1.2
  have HW := Lib.hid hVW
  have HZ2 := Lib.hid hZ2
  clear hD1 hVW hZ1 hZ2
  have hlen := HM.out.1
  generalize l.take M = l' at HM hlen
  subst hlen
  go_enter Try.func4, Try.ntmps4
  go_wp2_with fail
  go_region
  go_wp2_with fail
  go_at_call 19
  refine (bring_spec m 4 _ (by omega) (by omega)).mono ?_
  rintro e w1 ⟨rfl, rfl⟩
  go_wp2_with fail
  have HE : Hid (IsB ((w.alloc (.cells #[.int .u8 (b0.toNat : Int), .int .u8 (b1.toNat : Int)] 32)).alloc (.cells #[.int .u8 (b0.toNat : Int), .int .u8 (D.toNat : Int)] 5)).drew (some ⟨w.heap.size + 1, 0, none⟩) 2 [b0, D]) :=
    Lib.hid (is_blk_n [b0, D] (Blk.new_ (w := w.alloc (.cells #[.int .u8 (b0.toNat : Int), .int .u8 (b1.toNat : Int)] 32)) (g := w.heap.size + 1) (by simp) 5 #[.int .u8 (b0.toNat : Int), .int .u8 (D.toNat : Int)]) rfl rfl)
  have HM : Hid (IsB ((w.alloc (.cells #[.int .u8 (b0.toNat : Int), .int .u8 (b1.toNat : Int)] 32)).alloc (.cells #[.int .u8 (b0.toNat : Int), .int .u8 (D.toNat : Int)] 5)).drew A l'.length l') := Lib.hid (HM.out.alloc (.cells #[.int .u8 (b0.toNat : Int), .int .u8 (D.toNat : Int)] 5))
  have HB := Lib.hid (HB.out.alloc HB.out.size (.cells #[.int .u8 (b0.toNat : Int), .int .u8 (D.toNat : Int)] 5)).drew
  go_at_call 14
  refine (copyb_spec A _ c l' _ HM.out (by omega)).mono ?_
  rintro e w1 ⟨A1, n1, c1, rfl, hO1, hb1⟩
  obtain rfl : l'.length = n1 := hO1.1
  have HO1 := Lib.hid hO1
  have HB1 := Lib.hid hb1
  have HE1 := Lib.hid (HE.out.pure hb1)
  clear hO1 hb1
  go_wp2_with (at_builtin; refine wpl_app _ rfl (.tmp 38) (.tmp 39) _ rfl 5 _ 1 1 Try.underlying22 info_b rfl (by omega) bc_len bc_one _ _ _ _ _ rfl HO1.out _ _ _ _ rfl HE1.out (by omega) HB1.out.size ?_; intro A2 c2 w2 hown hfr hat; have HO2 := Lib.hid hown; have HF2 := Lib.hid hfr; clear hown hfr hat)
  obtain ⟨r0, r1, r2, r3, hr⟩ := quad (endR l'.length b0 D.toNat)
  obtain ⟨re, hre⟩ : ∃ x, endE l'.length b0 D.toNat = x := ⟨_, rfl⟩
  have HR1 := Lib.hid ((rootR_app l' b0 D HW.out).trans hr)
  have HR2 := Lib.hid ((rootE_app l' b0 D HW.out).trans hre)
  have HR3 := Lib.hid (show rootR (List.replicate l'.length (0 : UInt8) ++ [b0, D]) = (r0, r1, r2, r3) from (rootR_app _ b0 D HW.out).trans (by rw [List.length_replicate]; exact hr))
  have HR4 := Lib.hid (show rootE (List.replicate l'.length (0 : UInt8) ++ [b0, D]) = re from (rootE_app _ b0 D HW.out).trans (by rw [List.length_replicate]; exact hre))
  have HCS := Lib.hid (ends_cases l'.length b0 D.toNat (by omega))
  rw [hr, hre] at HCS
  have hb2 : Below _ _ w2 := below_fr HB1.out HF2.out (by rintro j ⟨ad, h, rfl⟩; exact (HO1.out.addr ad h).2.1)
  have HB := Lib.hid (pure_below HB.out hb2)
  have HE := Lib.hid (HE.out.pure hb2)
  have HM := Lib.hid (HM.out.pure hb2)
  clear hb2 hr hre HO1 HB1 HF2 HE1 hmin hcut
  go_at_call 15
  refine (root_spec2 A2 (l'.length + 2) c2 _ _ r0 r1 r2 r3 re HO2.out.is (by omega) HR1.out HR2.out).mono ?_
  rintro e w3 ⟨rfl, hb⟩
  have HX := Lib.hid (Blk.new w3 25 #[.int .i64 r0, .int .i64 r1, .int .i64 r2, .int .i64 r3])
  have HB := Lib.hid ((pure_below HB.out hb).alloc (pure_below HB.out hb).size (.cells #[.int .i64 r0, .int .i64 r1, .int .i64 r2, .int .i64 r3] 25))
  have HE := Lib.hid ((HE.out.pure hb).alloc (.cells #[.int .i64 r0, .int .i64 r1, .int .i64 r2, .int .i64 r3] 25))
  have HM := Lib.hid ((HM.out.pure hb).alloc (.cells #[.int .i64 r0, .int .i64 r1, .int .i64 r2, .int .i64 r3] 25))
  have hx3 := HX.out.lt
  obtain ⟨wx, hwx⟩ : ∃ wx, wx = w3.alloc (.cells #[.int .i64 r0, .int .i64 r1, .int .i64 r2, .int .i64 r3] 25) := ⟨_, rfl⟩
  have HZO := Lib.hid (ownb_at (W := w3.alloc (.cells #[.int .i64 r0, .int .i64 r1, .int .i64 r2, .int .i64 r3] 25)) (g := w3.heap.size + 1) Z l'.length (List.replicate l'.length (0 : UInt8)) (by simp) (by simp) (by omega) HZ2.out)
  have HE2 := Lib.hid (HE.out.alloc (.cells Z 5))
  clear hb hwx
  go_wp2_with (at_builtin; refine wpl_app _ rfl (.tmp 47) (.tmp 48) _ rfl 5 _ 1 1 Try.underlying22 info_b rfl (by omega) bc_len bc_one _ _ _ _ _ rfl HZO.out _ _ _ _ rfl HE2.out (by omega) (by simp) ?_; intro A4 c4 w4 hown hfr hat; have HO4 := Lib.hid hown; have HF4 := Lib.hid hfr; clear hown hfr hat)
  have hb4 : Below (w3.alloc (.cells #[.int .i64 r0, .int .i64 r1, .int .i64 r2, .int .i64 r3] 25)).heap.size (w3.alloc (.cells #[.int .i64 r0, .int .i64 r1, .int .i64 r2, .int .i64 r3] 25)) w4 :=
    below_fr ((Below.refl _ _).alloc (Nat.le_refl _) _) HF4.out (by rintro j ⟨ad, h, rfl⟩; injection h with h; subst h; simp)
  have HB := Lib.hid (pure_below HB.out hb4)
  have HE := Lib.hid (HE.out.pure hb4)
  have HM := Lib.hid (HM.out.pure hb4)
  have HX := Lib.hid (HX.out.pure hb4)
  clear hb4 HF4 HE2 HZO hmk
  go_at_call 15
  refine (root_spec2 A4 (l'.length + 2) c4 _ _ r0 r1 r2 r3 re HO4.out.is (by omega) HR3.out HR4.out).mono ?_
  rintro e w5 ⟨rfl, hb⟩
  have HB := Lib.hid ((pure_below HB.out hb).alloc (pure_below HB.out hb).size (.cells #[.int .i64 r0, .int .i64 r1, .int .i64 r2, .int .i64 r3] 25))
  have HE := Lib.hid ((HE.out.pure hb).alloc (.cells #[.int .i64 r0, .int .i64 r1, .int .i64 r2, .int .i64 r3] 25))
  have HM := Lib.hid ((HM.out.pure hb).alloc (.cells #[.int .i64 r0, .int .i64 r1, .int .i64 r2, .int .i64 r3] 25))
  have HX5 := Lib.hid (HX.out.pure hb)
  have HX := Lib.hid ((HX.out.pure hb).alloc (.cells #[.int .i64 r0, .int .i64 r1, .int .i64 r2, .int .i64 r3] 25))
  have x0 := cell0 HX5.out
  have x1 := cell1 HX5.out
  have x2 := cell2 HX5.out
  have x3 := cell3 HX5.out
  have hlt5 := HX5.out.lt
  clear hb HO4 HO2 HR1 HR2 HR3 HR4 hx3
  go_wp2_with fail
  go_at_call 20
  refine (unpack_spec b0 _).mono ?_
  rintro e w6 ⟨rfl, hb⟩
  have HB := Lib.hid (pure_below HB.out hb)
  have HE := Lib.hid (HE.out.pure hb)
  have HM := Lib.hid (HM.out.pure hb)
  have HX := Lib.hid (HX.out.pure hb)
  clear x0 x1 x2 x3 hlt5 hb HX5
  rcases HCS.out with ⟨h1, rfl⟩ | ⟨h1, h2, h3, rfl⟩ | ⟨h1, h2, h3, rfl⟩ | ⟨h1, h2, h3, h4, rfl⟩ | ⟨h1, h2, h3, h4, rfl, h5⟩
  · have hz : (l'.length == 0) = true := by simp [h1]
    clear h1 HCS
    go_wp2_with fail
    go_at_call 18
    refine (refworks_spec _).mono ?_
    rintro e w9 ⟨rfl, hb⟩
    have HB := Lib.hid (pure_below HB.out hb)
    clear hb
    go_wp2
    go_ret
    exact ⟨rfl, HB.out⟩
  · have hz : (l'.length == 0) = false := beq_eq_false_iff_ne.mpr (by omega)
    clear h1 HCS h2
    rw [h3]
    clear h3
    go_wp2_with fail
    go_at_call 18
    refine (refworks_spec _).mono ?_
    rintro e w9 ⟨rfl, hb⟩
    have HB := Lib.hid (pure_below HB.out hb)
    clear hb
    go_wp2
    go_ret
    exact ⟨rfl, HB.out⟩
  · have hz : (l'.length == 0) = false := beq_eq_false_iff_ne.mpr (by omega)
    rw [h2]
    have hd : decide ((l'.length : Int) < (D.toNat : Int)) = true := by simpa using h3
    clear h1 HCS h2
    go_wp2_with fail
    go_at_call 18
    refine (refworks_spec _).mono ?_
    rintro e w9 ⟨rfl, hb⟩
    have HB := Lib.hid (pure_below HB.out hb)
    clear hb
    go_wp2
    go_ret
    exact ⟨rfl, HB.out⟩
  · have hz : (l'.length == 0) = false := beq_eq_false_iff_ne.mpr (by omega)
    rw [h2]
    have hd : decide ((l'.length : Int) < (D.toNat : Int)) = false := by simpa using h3
    have hm2 : ((l'.length : Int) % (D.toNat : Int) != 0) = true := by simpa using h4
    have hdz : (D.toNat == 0) = false := by simp; omega
    clear h1 HCS h2 h4
    go_wp2_with fail
    go_at_call 18
    refine (refworks_spec _).mono ?_
    rintro e w9 ⟨rfl, hb⟩
    have HB := Lib.hid (pure_below HB.out hb)
    clear hb
    go_wp2
    go_ret
    exact ⟨rfl, HB.out⟩
  · have hz : (l'.length == 0) = false := beq_eq_false_iff_ne.mpr (by omega)
    rw [h2]
    have hd : decide ((l'.length : Int) < (D.toNat : Int)) = false := by simpa using h3
    have hm2 : ((l'.length : Int) % (D.toNat : Int) != 0) = false := by simpa using h4
    have hdz : (D.toNat == 0) = false := by simp; omega
    have h51 : r0 = (l'.length : Int) - D.toNat := congrArg (·.1) h5
    have h52 : r1 = (D.toNat : Int) := congrArg (·.2.1) h5
    have h50 : 0 ≤ r0 := by omega
    have H5 := Lib.hid h51
    have H52 := Lib.hid h52
    clear h1 HCS h2 h4 h5 h51 h52
    go_wp2_with fail
    go_at_call 14
    refine (copyb_spec A _ c l' _ HM.out (by omega)).mono ?_
    rintro e w7 ⟨A5, n5, c5, rfl, hO5, hb5⟩
    obtain rfl : l'.length = n5 := hO5.1
    have HO5 := Lib.hid hO5
    have HB5 := Lib.hid hb5
    have HE5 := Lib.hid (HE.out.pure hb5)
    clear hO5 hb5
    go_wp2_with (first
      | (at_builtin; refine wpl_app _ rfl (.tmp 105) (.tmp 106) _ rfl 5 _ 1 1 Try.underlying22 info_b rfl (by omega) bc_len bc_one _ _ _ _ _ rfl HO5.out _ _ _ _ rfl HE5.out (by omega) HB5.out.size ?_; intro A6 c6 w8 hown hfr hat; have HO6 := Lib.hid hown; have HF6 := Lib.hid hfr; clear hown hfr hat)
      | (at_builtin; refine wpl_app _ rfl (.tmp 107) (.tmp 109) _ rfl 5 _ 1 1 Try.underlying22 info_b rfl (by omega) bc_len bc_one _ _ _ _ _ rfl (HO6.out.pure ((Below.refl _ _).alloc (Nat.le_refl _) _)) _ _ _ _ rfl (isb_new _ _ b1 rfl) (by omega) (by have := HF6.out.size; have := HB5.out.size; simp; omega) ?_; intro A7 c7 w9 hown hfr hat; have HO7 := Lib.hid hown; have HF7 := Lib.hid hfr; clear hown hfr hat))
    have hb8 : Below w6.heap.size w6 w8 := below_fr HB5.out HF6.out (by rintro j ⟨ad, h, rfl⟩; exact (HO5.out.addr ad h).2.1)
    have hb9 : Below w6.heap.size w6 w9 := below_fr (hb8.alloc hb8.size _) HF7.out (by rintro j ⟨ad, h, rfl⟩; exact (HO6.out.addr ad h).2.1)
    have HB := Lib.hid (pure_below HB.out hb9)
    have HX := Lib.hid (HX.out.pure hb9)
    clear hb8 hb9 HF6 HF7 HO5 HO6 HB5 HE5
    obtain ⟨z0, z1, z2, z3, hz0⟩ := quad (rootR (l' ++ [b0, D] ++ [b1]))
    obtain ⟨ze, hze⟩ : ∃ x, rootE (l' ++ [b0, D] ++ [b1]) = x := ⟨_, rfl⟩
    have HZ1 := Lib.hid hz0
    have HZ3 := Lib.hid hze
    have hsum : ze = 0 → z0 + z1 = (l'.length : Int) + 1 := by
      intro e
      have := rootR_sum (l' ++ [b0, D] ++ [b1]) (hze.trans e)
      rw [hz0] at this
      simp at this
      omega
    have HS := Lib.hid hsum
    clear hz0 hze hsum
    go_at_call 15
    refine (root_spec2 A7 (l'.length + 2 + 1) c7 _ _ z0 z1 z2 z3 ze HO7.out.is (by omega) HZ1.out HZ3.out).mono ?_
    rintro e wa ⟨rfl, hb⟩
    have HB := Lib.hid ((pure_below HB.out hb).alloc (pure_below HB.out hb).size (.cells #[.int .i64 z0, .int .i64 z1, .int .i64 z2, .int .i64 z3] 25))
    have HX := Lib.hid (HX.out.pure hb)
    have x0 := cell0 HX.out
    have x1 := cell1 HX.out
    have x2 := cell2 HX.out
    have x3 := cell3 HX.out
    have hlt := HX.out.lt
    have h51 := H5.out
    have h52 := H52.out
    clear hb HO7 HZ1 HZ3
    by_cases hze : ze = 0
    · have hs := HS.out hze
      subst hze
      clear HS
      go_wp2_with fail
      go_at_call 18
      refine (refworks_spec _).mono ?_
      rintro e w9 ⟨rfl, hb⟩
      have HB := Lib.hid (pure_below HB.out hb)
      clear hb
      go_wp2
      go_ret
      exact ⟨rfl, HB.out⟩
    · have hzn : (ze != 0) = true := by simpa using hze
      clear hze HS
      go_wp2_with fail
      go_at_call 18
      refine (refworks_spec _).mono ?_
      rintro e w9 ⟨rfl, hb⟩
      have HB := Lib.hid (pure_below HB.out hb)
      clear hb
      go_wp2
      go_ret
      exact ⟨rfl, HB.out⟩
end Go.Proofs.Ytdoagpophikgjaa
