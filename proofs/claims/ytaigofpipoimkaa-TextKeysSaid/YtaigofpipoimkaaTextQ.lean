/-
  Package text: the property TextKeys.
-/
import Derived.Test.YtaigofpipoimkaaTextO
import Derived.Test.YtaigofpipoimkaaMake
import Derived.Test.YtaigofpipoimkaaRefRow
import Derived.Deep.DeepCutAuto
import Derived.Deep.RegionLaw
namespace Go.Proofs.Ytaigofpipoimkaa
open Go.RowKit Go.Acc
theorem isl_drew {w : World} {A : Option Addr} {n : Nat} {l : List UInt8} (h : IsB w A n l) : IsB w.drew A n l := h
theorem own_drw {w : World} {B n c : Nat} {A : Option Addr} {l : List UInt8} (h : OwnB w B A n c l) : OwnB w.drew B A n c l := h
theorem own_alloc {w : World} {B n c : Nat} {A : Option Addr} {l : List UInt8} (h : OwnB w B A n c l) (o : Obj) : OwnB (w.alloc o) B A n c l := h.pure ((Below.refl _ _).alloc (Nat.le_refl _) o)
theorem isb_new2 {w : World} {g : Nat} {z : Int} (hg : w.heap.size = g) (u : UInt8) (h : z = (u.toNat : Int)) : IsB (w.alloc (.cells #[.int .u8 z] 5)) (some ⟨g, 0, none⟩) 1 [u] := by
  subst hg
  exact isb_new w z u h
set_option maxRecDepth 100000 in
set_option maxHeartbeats 4000000 in
theorem textkeys_spec (A : Option Addr) (n c : Nat) (pos back : Int) (l : List UInt8) (w : World) (h : IsB w A n l) (hc : n ≤ c) :
    Calls Try.prog 6 #[.slice A n c, .int .i64 pos, .int .i64 back] w fun e w' => e = .returned (.bool true) ∧ Below w.heap.size w w' := by
  obtain ⟨M, hMn, hMB, hmin, hcut⟩ := cut_facts A n c 300 300 rfl hc
  have HM := Lib.hid (h.take bc_len hMn)
  have HB := Lib.hid (Below.refl w.heap.size w)
  clear h
  go_enter Try.func6, Try.ntmps6
  go_wp2_with fail
  go_at_call 15
  refine (copyb_spec A M c (l.take M) _ HM.out (by omega)).mono ?_
  rintro e w1 ⟨A1, n1, c1, rfl, hO1, hb1⟩
  obtain rfl : M = n1 := by rw [← hO1.1, HM.out.1]
  have hlen := HM.out.1
  generalize l.take M = l at hO1 hlen HM
  subst hlen
  replace HB := Lib.hid (pure_below HB.out hb1)
  have HO := Lib.hid hO1.is
  have hc1 := hO1.cap.1
  have hA1 : ∀ ad, A1 = some ad → ad.block < w1.heap.size := fun ad e => (hO1.addr ad e).2.2
  clear hO1 hb1 HM hmin hcut
  obtain ⟨K, hK, hKl⟩ : ∃ K : Nat, pos % ((l.length : Int) + 1) = K ∧ K ≤ l.length := by
    have h1 := Int.emod_nonneg pos (b := (l.length : Int) + 1) (by omega)
    have h2 := Int.emod_lt_of_pos pos (b := (l.length : Int) + 1) (by omega)
    exact ⟨(pos % ((l.length : Int) + 1)).toNat, by omega, by omega⟩
  obtain ⟨E, hE, hEK, hE5⟩ : ∃ E : Nat, (if (255 : Int) < (K : Int) then (255 : Int) else (K : Int)) = E ∧ E ≤ K ∧ E ≤ 255 := by
    by_cases h : (255 : Int) < (K : Int)
    · exact ⟨255, by rw [if_pos h]; rfl, by omega, by omega⟩
    · exact ⟨K, by rw [if_neg h], by omega, by omega⟩
  obtain ⟨N, hN, hNE⟩ : ∃ N : Nat, back % ((E : Int) + 1) = N ∧ N ≤ E := by
    have h1 := Int.emod_nonneg back (b := (E : Int) + 1) (by omega)
    have h2 := Int.emod_lt_of_pos back (b := (E : Int) + 1) (by omega)
    exact ⟨(back % ((E : Int) + 1)).toNat, by omega, by omega⟩
  have HK := Lib.hid hK
  have HE := Lib.hid hE
  have HN := Lib.hid hN
  have hNK : N ≤ K := by omega
  have hN5 : N ≤ 255 := by omega
  clear hK hE hN
  go_wp2_with fail
  go_at_call 23
  refine (bring_spec pos ((l.length : Int) + 1) _ (by omega) (by omega)).mono ?_
  rw [HK.out]
  rintro e w2 ⟨rfl, rfl⟩
  have hE := HE.out
  go_wp2_with fail
  clear hE
  go_at_call 23
  refine (bring_spec back ((E : Int) + 1) _ (by omega) (by omega)).mono ?_
  rw [HN.out]
  rintro e w2 ⟨rfl, rfl⟩
  have hq1 := cut_run A1 l.length c1 K (by omega)
  obtain ⟨X, hX1, hX2⟩ := cut_from A1 l.length c1 K hKl hc1
  have HX2 := Lib.hid hX2
  clear hX2
  go_upto_region 4 with fail
  go_cut [7] (fun u7 wx => ∃ wy, wy = wx ∧ ∃ A4 c4 m, u7 = .slice A4 m c4 ∧ m = l.length + 1 ∧ IsB wx A4 m (tkL l K N) ∧ m ≤ c4 ∧ Below w1.heap.size w1 wx)
  case first =>
    have hbyte : IntKind.u8.wrap (N : Int) = ((UInt8.ofNat N).toNat : Int) := by
      rw [IntKind.wrap_u8, UInt8.toNat_ofNat']
      omega
    have Pa := Lib.hid (own_drw (ownb_at (W := w1) (g := w1.heap.size) #[] 0 [] (by simp) rfl (by omega) rfl))
    have Pb := Lib.hid (own_drw (own_alloc (ownb_at (W := w1) (g := w1.heap.size) #[] 0 [] (by simp) rfl (by omega) rfl) (.cells #[.int .u8 (IntKind.u8.wrap (N : Int))] 5)))
    have Pc := Lib.hid (own_drw (Own.rebase (B' := w1.heap.size) (ownb_at (W := w1.alloc (.cells #[.int .u8 (IntKind.u8.wrap (N : Int))] 5)) (g := w1.heap.size + 1) #[] 0 [] (by simp) rfl (by omega) rfl) (Nat.le_succ _)))
    have Nb := Lib.hid (isl_drew (isb_new2 (w := w1.alloc (.cells #[] 5)) (g := w1.heap.size + 1) (by simp) (UInt8.ofNat N) hbyte))
    have Nc := Lib.hid (isl_drew ((isb_new2 (w := w1) (g := w1.heap.size) rfl (UInt8.ofNat N) hbyte).alloc (.cells #[] 5)))
    have HBYTE := Lib.hid hbyte
    clear hbyte
    go_region_law (first
      | (refine step_appB rfl (.tmp 29) (.tmp 32) rfl w1.heap.size _ 0 0 [] rfl Pa.out A1 K c1 (l.take K) rfl ((isl_drew (HO.out.alloc (.cells #[] 5))).take bc_len hKl) (by omega) (by simp <;> omega) ?_; intro A2 c2 w2 hown hfr; have HP := Lib.hid (show OwnB w2 w1.heap.size A2 K c2 (l.take K) by simpa using hown); have HL := Lib.hid ((isl_drew (HO.out.alloc (.cells #[] 5))).fr hfr (fun ad e ⟨ad', e', h⟩ => by have h1 := hA1 ad e; injection e' with e'; rw [← e'] at h; simp at h; omega)); have HBx := Lib.hid (show Below w1.heap.size w1 w2 from below_fr ((Below.refl _ _).alloc (Nat.le_refl _) (.cells #[] 5)).drew hfr (by rintro j ⟨ad, e, rfl⟩; injection e with e; rw [← e]; exact Nat.le_refl _)); simp only [Nat.zero_add]; clear hown hfr)
      | (refine step_appB rfl (.tmp 29) (.tmp 32) rfl w1.heap.size _ 0 0 [] rfl Pb.out A1 K c1 (l.take K) rfl ((isl_drew ((HO.out.alloc (.cells #[] 5)).alloc (.cells #[.int .u8 (IntKind.u8.wrap (N : Int))] 5))).take bc_len hKl) (by omega) (by simp <;> omega) ?_; intro A2 c2 w2 hown hfr; have HP := Lib.hid (show OwnB w2 w1.heap.size A2 K c2 (l.take K) by simpa using hown); have HL := Lib.hid ((isl_drew ((HO.out.alloc (.cells #[] 5)).alloc (.cells #[.int .u8 (IntKind.u8.wrap (N : Int))] 5))).fr hfr (fun ad e ⟨ad', e', h⟩ => by have h1 := hA1 ad e; injection e' with e'; rw [← e'] at h; simp at h; omega)); have HBx := Lib.hid (show Below w1.heap.size w1 w2 from below_fr (((Below.refl _ _).alloc (Nat.le_refl _) (.cells #[] 5)).alloc (by simp) (.cells #[.int .u8 (IntKind.u8.wrap (N : Int))] 5)).drew hfr (by rintro j ⟨ad, e, rfl⟩; injection e with e; rw [← e]; exact Nat.le_refl _)); have HNB := Lib.hid (Nb.out.fr hfr (fun ad e ⟨ad', e', h⟩ => by injection e with e; injection e' with e'; rw [← e, ← e'] at h; simp at h)); simp only [Nat.zero_add]; clear hown hfr)
      | (refine step_appB rfl (.tmp 29) (.tmp 32) rfl w1.heap.size _ 0 0 [] rfl Pc.out A1 K c1 (l.take K) rfl ((isl_drew ((HO.out.alloc (.cells #[.int .u8 (IntKind.u8.wrap (N : Int))] 5)).alloc (.cells #[] 5))).take bc_len hKl) (by omega) (by simp <;> omega) ?_; intro A2 c2 w2 hown hfr; have HP := Lib.hid (show OwnB w2 w1.heap.size A2 K c2 (l.take K) by simpa using hown); have HL := Lib.hid ((isl_drew ((HO.out.alloc (.cells #[.int .u8 (IntKind.u8.wrap (N : Int))] 5)).alloc (.cells #[] 5))).fr hfr (fun ad e ⟨ad', e', h⟩ => by have h1 := hA1 ad e; injection e' with e'; rw [← e'] at h; simp at h; omega)); have HBx := Lib.hid (show Below w1.heap.size w1 w2 from below_fr (((Below.refl _ _).alloc (Nat.le_refl _) (.cells #[.int .u8 (IntKind.u8.wrap (N : Int))] 5)).alloc (by simp) (.cells #[] 5)).drew hfr (by rintro j ⟨ad, e, rfl⟩; injection e with e; rw [← e]; exact Nat.le_succ _)); have HNB := Lib.hid (Nc.out.fr hfr (fun ad e ⟨ad', e', h⟩ => by injection e with e; injection e' with e'; rw [← e, ← e'] at h; simp at h)); simp only [Nat.zero_add]; clear hown hfr)
      | (refine step_appB rfl (.tmp 33) (.tmp 36) rfl w1.heap.size _ K _ (l.take K) rfl (own_alloc HP.out (.cells #[.int .u8 (IntKind.u8.wrap (N : Int))] 5)) _ 1 1 [UInt8.ofNat N] rfl (isb_new _ _ (UInt8.ofNat N) HBYTE.out) (by omega) (HBx.out.alloc HBx.out.size (.cells #[.int .u8 (IntKind.u8.wrap (N : Int))] 5)).size ?_; intro A3 c3 w3 hown hfr; have HP3 := Lib.hid hown; have HL3 := Lib.hid ((HL.out.alloc (.cells #[.int .u8 (IntKind.u8.wrap (N : Int))] 5)).fr hfr (fun ad e ⟨ad', e', h⟩ => by have h1 := hA1 ad e; have h2 := (HP.out.addr ad' e').2.1; omega)); have HBy := Lib.hid (below_fr (HBx.out.alloc HBx.out.size (.cells #[.int .u8 (IntKind.u8.wrap (N : Int))] 5)) hfr (by rintro j ⟨ad, e, rfl⟩; exact (HP.out.addr ad e).2.1)); clear hown hfr)
      | (refine step_appB rfl (.tmp 33) (.tmp 36) rfl w1.heap.size _ K _ (l.take K) rfl HP.out _ 1 1 [UInt8.ofNat N] rfl HNB.out (by omega) HBx.out.size ?_; intro A3 c3 w3 hown hfr; have HP3 := Lib.hid hown; have HL3 := Lib.hid ((HL.out).fr hfr (fun ad e ⟨ad', e', h⟩ => by have h1 := hA1 ad e; have h2 := (HP.out.addr ad' e').2.1; omega)); have HBy := Lib.hid (below_fr HBx.out hfr (by rintro j ⟨ad, e, rfl⟩; exact (HP.out.addr ad e).2.1)); clear hown hfr)
      | (refine step_appB rfl (.tmp 37) (.tmp 40) rfl w1.heap.size _ (K + 1) _ (l.take K ++ [UInt8.ofNat N]) rfl HP3.out X (l.length - K) _ (l.drop K) rfl (HX2.out _ _ HL3.out) (by omega) HBy.out.size ?_; intro A4 c4 w4 hown hfr; have HP4 := Lib.hid hown; have HBz := Lib.hid (below_fr HBy.out hfr (by rintro j ⟨ad, e, rfl⟩; exact (HP3.out.addr ad e).2.1)); clear hown hfr))
    all_goals
      go_wp2_with fail
      go_meet
      exact ⟨_, rfl, _, _, _, rfl, by omega, HP4.out.is, HP4.out.cap.1, HBz.out⟩
  case rest =>
    obtain ⟨w5, rfl, A4, c4, m, rfl, hm, hI, hc4, hb⟩ := hcut
    replace HB := Lib.hid (pure_below HB.out hb)
    have HI := Lib.hid hI
    have hlm := hI.1
    obtain ⟨hf1, hf2⟩ := tk_fnd hKl hNK hN5
    clear hb hI hq1 hX1 HX2 HO hA1
    generalize tkL l K N = L at HI hlm hf1 hf2
    obtain ⟨B, hB⟩ : ∃ B, K - N = B := ⟨_, rfl⟩
    have hkb : (K : Int) - (N : Int) = (B : Int) := by omega
    have hBm : B ≤ L.length := by omega
    rw [hB] at hf1 hf2
    obtain ⟨s, hs⟩ : ∃ x, fndL L K 1 4 1 [4] = x := ⟨_, rfl⟩
    obtain ⟨ee, hee⟩ : ∃ x, fndE L K 1 4 1 [4] = x := ⟨_, rfl⟩
    rw [hee] at hf1 hf2
    rw [hs] at hf2
    have HS := Lib.hid hs
    have HEE := Lib.hid hee
    have HF1 := Lib.hid hf1
    have HF2 := Lib.hid hf2
    have hm40 : m ≤ 1099511627776 := by omega
    have hBm2 : B ≤ m := by omega
    have HLM := Lib.hid hlm
    clear hs hee hf1 hf2 hB hlm hm
    go_wp2_with fail
    go_at_call 29
    refine (of23_spec K 1 4 1 _).mono ?_
    rintro e w6 ⟨rfl, hb⟩
    replace HB := Lib.hid (pure_below HB.out hb)
    replace HI := Lib.hid (HI.out.pure hb)
    clear hb
    go_wp2_with fail
    go_at_call 28
    refine (keyt_is A4 m c4 K 1 4 1 L s ⟨s.toArray⟩ ee _ HI.out hc4 hm40 HS.out HEE.out rfl).mono ?_
    rintro e w7 ⟨rfl, hb⟩
    replace HB := Lib.hid (pure_below HB.out hb)
    replace HI := Lib.hid (HI.out.pure hb)
    clear hb
    obtain ⟨Y, hY1, hY2⟩ := cut_from A4 m c4 B hBm2 hc4
    have hstr := run_str (c := c4 - B) (hY2 _ _ HI.out)
    have HZ := Lib.hid (idx_zero hBm)
    clear hY2
    go_wp2_with fail
    clear hY1 hstr
    go_at_call 30
    refine (sidx_spec (L.drop B) _).mono ?_
    rw [HZ.out]
    rintro e w8 ⟨rfl, rfl⟩
    have hzl := zeroAt_le hBm
    by_cases hz : zeroAt L B < L.length
    · obtain ⟨Z, hZ⟩ : ∃ Z, zeroAt L B = Z := ⟨_, rfl⟩
      have hk0 : ee = 0 := by rw [HF1.out]; unfold keyE; rw [if_pos hz]
      have hsk : s = (L.drop B).take (Z - B) := by rw [HF2.out hk0, ← hZ]; rfl
      have hix : Lib.indexByte s 0 = -1 := by rw [HF2.out hk0]; exact idx_key hBm
      rw [if_pos hz, hZ]
      rw [hZ] at hz hzl
      subst hk0
      obtain ⟨D, hD⟩ : ∃ D, Z - B = D := ⟨_, rfl⟩
      have hbd : (B : Int) + (D : Int) = (Z : Int) := by omega
      have hZm : Z ≤ m := by have := HLM.out; omega
      obtain ⟨Y2, hY1, hY2⟩ := cut_any A4 m c4 B Z (by omega) hZm hc4
      have hstr := run_str (c := c4 - B) (hY2 _ _ HI.out)
      rw [← hsk] at hstr
      rw [hD] at hY1 hstr ⊢
      have HIX := Lib.hid hix
      have hd0 : (0 : Int) ≤ D := by omega
      clear hY2 hZ hsk hix hD hz hzl
      go_wp2_with fail
      clear hY1 hstr hbd hkb
      go_at_call 31
      refine (is23_yes _ _ _).mono ?_
      rintro e w8 ⟨rfl, rfl⟩
      go_wp2_with fail
      go_at_call 30
      refine (sidx_spec s _).mono ?_
      rw [HIX.out]
      rintro e w8 ⟨rfl, rfl⟩
      go_wp2_with fail
      go_at_call 32
      refine (textworks_spec _).mono ?_
      rintro e w9 ⟨rfl, hb⟩
      replace HB := Lib.hid (pure_below HB.out hb)
      clear hb
      go_wp2
      go_ret
      exact ⟨rfl, HB.out⟩
    · have hk0 : ee = 213 := by rw [HF1.out]; unfold keyE; rw [if_neg hz]
      have hsk : s = [] := by
        rw [← HS.out]
        unfold fndL
        rw [HEE.out, hk0, if_neg (by decide)]
      rw [if_neg hz]
      subst hk0 hsk
      clear hz hzl hkb
      go_wp2_with fail
      go_at_call 31
      refine (is23_yes _ _ _).mono ?_
      rintro e w8 ⟨rfl, rfl⟩
      go_wp2_with fail
      go_at_call 32
      refine (textworks_spec _).mono ?_
      rintro e w9 ⟨rfl, hb⟩
      replace HB := Lib.hid (pure_below HB.out hb)
      clear hb
      go_wp2
      go_ret
      exact ⟨rfl, HB.out⟩

open Go.ChangeShapes Go.WideShapes Go.ChangeAt
set_option maxRecDepth 100000 in
theorem textKeys_run {H : Type} {enc : TypeId × Value → H} {v0 v1 v2 : Value} {d0 d1 d2 : DataW H} {p0 p1 p2 : List MemPlace} (W : World) (base : Nat) (k0 : Value.okWide Try.prog W .any base 25 v0) (k1 : Value.okWide Try.prog W .any base 3 v1) (k2 : Value.okWide Try.prog W .any base 3 v2)
    (h0 : DataW.Trod enc Try.prog W 0 (fun _ => true) true 25 v0 d0 p0) (h1 : DataW.Trod enc Try.prog W 0 (fun _ => true) true 3 v1 d1 p1) (h2 : DataW.Trod enc Try.prog W 0 (fun _ => true) true 3 v2 d2 p2) :
    Calls Try.prog 6 #[v0, v1, v2] W fun e w' => e = .returned (.bool true) ∧ Below W.heap.size W w' := by
  obtain ⟨A, n, c, l, rfl, hI, hc, _⟩ := bytes_arg k0 h0
  obtain ⟨i, rfl, _⟩ := int_arg k1 h1
  obtain ⟨j, rfl, _⟩ := int_arg k2 h2
  exact textkeys_spec A n c i j l W hI hc

set_option maxRecDepth 100000 in
theorem textKeys_lifted (os : Os) (started : os.Started) (H : Type) (enc : TypeId × Value → H) :
    ReturnsInHanded {} Try.checked os 6 .any (Rows.textKeysSpec.pre6 enc Try.prog Try.f6 Rows.textKeysRow.domain false) (Rows.textKeysSpec.post enc Try.prog Try.f6 false true false false) := by
  refine returnsInHanded_of_change (C := Try.checked) acc_own started (by kernel_rfl) Try.func6
    (ChangeSpec.witness6 (enc := enc) (C := Try.checked) false ⟨#[], #[.slice none 0 0, .int .i64 0, .int .i64 0], []⟩ 8 (by kernel_rfl) (by kernel_rfl) (by kernel_rfl) (by kernel_rfl)) ?_
  intro W base args ds gs before hval0 hW hcnd _
  have hval : ∀ (j : Nat) t v, Try.f6.params[j]? = some t → args[j]? = some v → Value.okWide Try.prog W .any base t v := hval0
  have hW' := hW
  obtain ⟨p, q, hA0, hV, rfl, hfz, hnd⟩ := hW
  have hA : DataW.TrodAll enc Try.prog W 0 (fun _ => true) true Try.f6.params.toList args.toList ds p := hA0
  rw [Try.params6] at hA
  rw [Try.params6] at hval
  obtain ⟨v0, vs0, d0, ds0, p0, q0, hargs, rfl, rfl, h0, r0⟩ := trodAll_cons hA
  obtain ⟨v1, vs1, d1, ds1, p1, q1, rfl, rfl, rfl, h1, r1⟩ := trodAll_cons r0
  obtain ⟨v2, vs2, d2, ds2, p2, q2, rfl, rfl, rfl, h2, r2⟩ := trodAll_cons r1
  obtain ⟨rfl, rfl, rfl⟩ := trodAll_nil r2
  obtain rfl : args = #[v0, v1, v2] := by cases args; simp_all
  obtain ⟨rfl, rfl⟩ := trodVars_none hV
  have k0 := hval 0 25 v0 rfl rfl
  have k1 := hval 1 3 v1 rfl rfl
  have k2 := hval 2 3 v2 rfl rfl
  clear hA0 hval0
  refine (textKeys_run (enc := enc) W base k0 k1 k2 h0 h1 h2).mono fun e W' ⟨he, bel⟩ => ?_
  subst he
  exact ⟨_, rfl, _, _, _, [], _, [], hW', trodAll_mk1 (shut_bool Try.underlying4 _), (trodAll_cons_mk (below_arg acc_laidOut (by kernel_rfl) (of_decide_eq_true (by kernel_rfl)) h0 bel) (trodAll_cons_mk (below_arg acc_laidOut (by kernel_rfl) (of_decide_eq_true (by kernel_rfl)) h1 bel) (trodAll_cons_mk (below_arg acc_laidOut (by kernel_rfl) (of_decide_eq_true (by kernel_rfl)) h2 bel) trodAll_mk0))), rfl, bel.frame _, fun h => by cases h⟩

theorem textKeys_holds : Rows.TextKeysSaid :=
  OpenClaim.holds_of_wide 6 Try.f6 rfl rfl rfl rfl rfl rfl rfl ⟨rfl, rfl, rfl, rfl, rfl⟩ rfl rfl rfl rfl rfl (by kernel_rfl) Try.func6 (by kernel_rfl)
    (of_decide_eq_true (by kernel_rfl)) (by unfold Func.isWrapper; rw [if_neg (of_decide_eq_false (by kernel_rfl))]; exact ⟨rfl, rfl⟩)
    (fun os started H enc _ => textKeys_lifted os started H enc)
#print axioms textKeys_holds
end Go.Proofs.Ytaigofpipoimkaa
