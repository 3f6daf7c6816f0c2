/-
  FmH
-/
import Derived.Test.YtfoifdoaleaekaaGreatQf45
import Derived.Test.YtfoifdoaleaekaaGreatRows
namespace Go.Proofs.YtfoifdoaleaekaaGreat
open Go.RowKit Go.Acc

theorem tmod_pos {i n : Int} (hn : 0 < n) (h : 0 ≤ i.tmod n) : i.tmod n = i % n := by
  have h1 := Int.tmod_lt_of_pos i hn
  have h2 : (i.tmod n) % n = i % n := by rw [Int.tmod_def, Int.sub_emod, Int.mul_emod_right]; simp
  rw [← h2, Int.emod_eq_of_lt h h1]
theorem tmod_neg {i n : Int} (hn : 0 < n) (h : i.tmod n < 0) : i.tmod n + n = i % n ∧ 0 ≤ i.tmod n + n := by
  have h1 : -n < i.tmod n := by
    have := Int.lt_tmod_of_pos i hn
    omega
  have h2 : (i.tmod n + n) % n = i % n := by rw [Int.add_emod_right, Int.tmod_def, Int.sub_emod, Int.mul_emod_right]; simp
  exact ⟨by rw [← h2, Int.emod_eq_of_lt (by omega) (by omega)], by omega⟩
set_option maxHeartbeats 400000 in
theorem bring_spec (i n : Int) (w : World) (h0 : 0 < n) (hn : n ≤ 9223372036854775807):
    Calls Tryz.prog 12 #[.int .i64 i, .int .i64 n] w fun e w' => e = .returned (.int .i64 (i % n)) ∧ w = w' := by
  by_cases h : 0 ≤ i.tmod n
  · have H := Lib.hid (tmod_pos h0 h)
    go_enter Tryz.func12, Tryz.ntmps12
    go_wp2
    go_ret
    exact ⟨ret_int H.out, rfl⟩
  · have h' : i.tmod n < 0 := by omega
    have H := Lib.hid (tmod_neg h0 h').1
    have hlo := (tmod_neg h0 h').2
    clear h
    go_enter Tryz.func12, Tryz.ntmps12
    go_wp2
    go_ret
    exact ⟨ret_int H.out, rfl⟩
end Go.Proofs.YtfoifdoaleaekaaGreat

namespace Go.Proofs.YtfoifdoaleaekaaGreat
open Go.RowKit Go.Acc
theorem fmE_len (ks : List (List UInt8)) : (fmE ks).length = ks.length := by
  unfold fmE
  rw [(sortE_perm _).length_eq, List.length_zip, fmKids_len, Nat.min_self]
end Go.Proofs.YtfoifdoaleaekaaGreat

namespace Go.Proofs.YtfoifdoaleaekaaGreat
open Go.RowKit Go.Acc
theorem MapD.past {L : List UInt8} {p q t v : Int} {ks : List (List UInt8)} {ns : List Int} (h : MapD L p q t v ks ns) : kaS L p q t v (ks.length : Int) = [] ∧ kaE L p q t v (ks.length : Int) = 6 := by
  have hN := op_len h.op
  have hl : lsE L (kyP L p q t v) (kyQ L p q t v) (kyT L p q t v) (kyV L p q t v) = 0 := by
    rcases op_cases L p q t v with ⟨h1, e⟩ | ⟨_, ⟨h1, e⟩ | ⟨h1, _⟩⟩
    · rw [h.op] at e; exact absurd e.symm h1
    · rw [h.op] at e; exact absurd e.symm h1
    · exact h1
  have ha : atE L (kyP L p q t v) (kyQ L p q t v) (kyT L p q t v) (kyV L p q t v) (ks.length : Int) = 6 := by
    unfold atE
    unfold opN at hN
    rw [if_neg (by rw [hl]; decide), if_pos (.inr (by rw [hN, h.len.2]; exact Int.le_refl _))]
  rw [(ka_rk h.op _).1, (ka_rk h.op _).2]
  unfold rkE rkS
  rw [ha]
  exact ⟨if_pos (by decide), if_pos (by decide)⟩
structure OrdAt (L : List UInt8) (p q t v : Int) (i : Nat) (k : List UInt8) (z a b d g : Int) : Prop where
  ka : kaS L p q t v (i : Int) = k ∧ kaE L p q t v (i : Int) = 0
  el : atP L p q t v (i : Int) = a ∧ atQ L p q t v (i : Int) = b ∧ atT L p q t v (i : Int) = d ∧ atV L p q t v (i : Int) = g ∧ atE L p q t v (i : Int) = 0
  val : intV L a b d g = z ∧ intE L a b d g = 0
  fd : fdP L k p q t v = a ∧ fdQ L k p q t v = b ∧ fdT L k p q t v = d ∧ fdV L k p q t v = g ∧ fdB L k p q t v = true ∧ fdE L k p q t v = 0
theorem ord_at {L : List UInt8} {p q t v : Int} {K : List (List UInt8)} {ps : List Nat} (hK : KeysOk K) (h : MapD L p q t v ((fmE K).map (·.1)) ((fmE K).map (·.2.n))) (hp : ps.Perm (List.range K.length)) (ha : ∀ (i j : Nat) (hi : i < ps.length) (hj : j < ps.length), i < j → K.getD ps[i] [] < K.getD ps[j] []) {i : Nat} (hi : i < ps.length) :
    ∃ (hj : ps[i] < K.length), ∃ a b d g, OrdAt L p q t v i K[ps[i]] (ps[i] : Nat) a b d g := by
  have hj : ps[i] < K.length := List.mem_range.1 (hp.mem_iff.1 (List.getElem_mem hi))
  refine ⟨hj, ?_⟩
  have hs : ps.map (fun p => (K.getD p [], (fmKids K.length).getD p (leafI 0))) = fmE K := sort_ps K (fmKids K.length) (leafI 0) rfl (fmKids_len _) hK.1 hp ha
  have he : (fmE K)[i]? = some (K[ps[i]], leafI ((ps[i] : Nat) : Int)) := by
    rw [← hs, List.getElem?_map, List.getElem?_eq_getElem hi, Option.map_some, List.getD_eq_getElem?_getD, List.getD_eq_getElem?_getD, List.getElem?_eq_getElem hj, fmKids_at hj]
    rfl
  have h1 : ((fmE K).map (·.1))[i]? = some K[ps[i]] := by rw [List.getElem?_map, he]; rfl
  have h2 : ((fmE K).map (·.2.n))[i]? = some ((ps[i] : Nat) : Int) := by rw [List.getElem?_map, he]; rfl
  obtain ⟨k1, k2⟩ := h.key i _ h1
  obtain ⟨e1, e2, e3⟩ := h.el i _ h2
  obtain ⟨f1, f2, ⟨f3, f4, f5, f6⟩, _⟩ := h.yes (fmE_up hK.1) h1 h2
  exact ⟨_, _, _, _, ⟨k2, k1⟩, ⟨rfl, rfl, rfl, rfl, e1⟩, ⟨e2, e3⟩, f3, f4, f5, f6, f1, f2⟩
set_option maxRecDepth 100000 in
set_option maxHeartbeats 4000000 in
theorem findorder_spec (A : Option Addr) (n c : Nat) (l : List (List UInt8)) (fl : Int) (w : World) (h : IsS w A n l) :
    Calls Tryz.prog 7 #[.slice A n c, .int .i64 fl] w fun e w' => e = .returned (.bool true) ∧ Below w.heap.size w w' := by
  have HI := Lib.hid h
  obtain ⟨K, hK⟩ : ∃ K, plainL l = K := ⟨_, rfl⟩
  obtain ⟨hk1, hk2⟩ := plainL_ok l
  have HPL := Lib.hid (fun (W : World) (h : IsS W A n l) => plain_spec A n c l W h)
  rw [hK] at hk1 hk2 HPL
  have HK1 := Lib.hid hk1
  have HK2 := Lib.hid hk2
  clear h hk1 hk2 hK
  obtain ⟨m, hm⟩ : ∃ m, K.length = m := ⟨_, rfl⟩
  rw [hm] at HPL
  have HM := Lib.hid hm
  have hm40 : m ≤ 40 := by rw [← hm]; exact HK2.out
  clear hm
  go_enter Tryz.func7, Tryz.ntmps7
  go_wp2_with fail
  go_at_call 26
  refine (HPL.out _ HI.out).mono ?_
  intro e w2 hS
  obtain ⟨A2, c2, rfl, ho, hb⟩ := hS
  have HO2 := Lib.hid ho
  have HB2 := Lib.hid hb
  clear ho hb HI HPL
  go_wp2_with fail
  go_at_call 27
  refine (fbuilt_spec A2 m c2 K fl _ _ HO2.out HK1.out HK2.out).mono ?_
  intro e w3 hW
  obtain ⟨A3, n3, c3, L, p, q, t, v, rfl, hI, hnc, hn3, hMD, hb⟩ := hW
  have HMD := Lib.hid hMD
  have hal := (Below.refl w3.heap.size w3).alloc (Nat.le_refl _) (.cells #[.int .i64 p, .int .i64 q, .int .i64 t, .int .i64 v] 36)
  have hbb := pure_trans hb hal
  have HO4 := Lib.hid (HO2.out.pure hbb)
  have HD4 := Lib.hid (hI.pure hal)
  have HB4 := Lib.hid (pure_below HB2.out hbb)
  have HR4 := Lib.hid (Blk.new w3 36 #[.int .i64 p, .int .i64 q, .int .i64 t, .int .i64 v])
  have HC := Lib.hid hnc
  have HN := Lib.hid (show n3 ≤ 1099511627776 by omega)
  clear hb hal hbb hI hMD HO2 HB2 hnc hn3
  go_upto_region 3 with fail
  generalize w3.alloc (.cells #[.int .i64 p, .int .i64 q, .int .i64 t, .int .i64 v] 36) = w4 at HO4 HD4 HB4 HR4 ⊢
  generalize w3.heap.size = b7 at HR4 ⊢
  go_wp2_with fail
  go_at_call 29
  refine (order_spec A2 m c2 K _ HO4.out.is (fun ad e => (HO4.out.addr ad e).2.2) (by omega) HK1.out.1).mono ?_
  intro e w5 hW
  obtain ⟨A5, c5, ps, rfl, hO5, hp, ha, hb⟩ := hW
  have HPS := Lib.hid (And.intro hp ha)
  have HP5 := Lib.hid (show OwnN w5 w4.heap.size A5 m c5 ps by rw [← HM.out]; exact hO5)
  have HO5 := Lib.hid (HO4.out.pure hb)
  have HD5 := Lib.hid (HD4.out.pure hb)
  have HB5 := Lib.hid (pure_below HB4.out hb)
  have HR5 := Lib.hid (HR4.out.pure hb)
  rw [HM.out]
  clear hO5 hp ha hb HO4 HD4 HB4 HR4
  go_wp2_with fail
  go_loopw [11] (fun u wr => ∃ i : Nat, i ≤ m ∧ u = .int .i64 (i : Int) ∧ Below w5.heap.size w5 wr) (fun u _ => m - (intOf u).toNat)
  case atStart => exact ⟨0, Nat.zero_le _, rfl, Below.refl _ _⟩
  case round =>
    obtain ⟨i, him, rfl, hb⟩ := hrel
    have HBR := Lib.hid hb
    have HOR := Lib.hid (HO5.out.pure hb)
    have HPR := Lib.hid (HP5.out.pure hb)
    have HDR := Lib.hid (HD5.out.pure hb)
    have HRR := Lib.hid (HR5.out.pure hb)
    clear hb
    have r0 := cell0 HRR.out
    have r1 := cell1 HRR.out
    have r2 := cell2 HRR.out
    have r3 := cell3 HRR.out
    by_cases hlt : i < m
    · obtain ⟨go, oo, eo, hio, ho⟩ := isi_at HPR.out.is hlt
      obtain ⟨hj, a, b, d, g, hoa⟩ := ord_at HK1.out HMD.out HPS.out.1 HPS.out.2 hio
      obtain ⟨ga, off, e, hi', hs⟩ := iss_at HOR.out.is (show ps[i] < m by rw [← HM.out]; exact hj)
      generalize K[ps[i]] = y at hoa hs
      generalize ps[i] = z at ho hoa hs hj
      have hzm : z < m := by rw [← HM.out]; exact hj
      have HZM := Lib.hid hzm
      have HBRG := Lib.hid (fun (W : World) => show Calls Tryz.prog 12 #[.int .i64 (z : Int), .int .i64 (m : Int)] W fun e w' => e = .returned (.int .i64 (z : Int)) ∧ W = w' by
        have h := bring_spec (z : Int) (m : Int) W (by omega) (by omega)
        rw [Int.emod_eq_of_lt (by omega) (by omega)] at h
        exact h)
      have HAT := Lib.hid (fun W (h : IsB W A3 n3 L) => lat_is A3 n3 c3 p q t v (i : Int) a b d g 0 L W h HC.out HN.out hoa.el.1 hoa.el.2.1 hoa.el.2.2.1 hoa.el.2.2.2.1 hoa.el.2.2.2.2)
      have HSI := Lib.hid (fun W (h : IsB W A3 n3 L) => int_is A3 n3 c3 a b d g L (z : Int) 0 W h HC.out (by have := HN.out; omega) hoa.val.1 hoa.val.2)
      have HTE := Lib.hid (fun W (h : IsB W A3 n3 L) => tells_yes A3 n3 c3 p q t v (i : Int) 0 y L W h HC.out HN.out hoa.ka.1 hoa.ka.2)
      have HFI := Lib.hid (fun W (h : IsB W A3 n3 L) => finds_yes A3 n3 c3 p q t v a b d g 0 true L y W h HC.out HN.out hoa.fd.1 hoa.fd.2.1 hoa.fd.2.2.1 hoa.fd.2.2.2.1 hoa.fd.2.2.2.2.1 hoa.fd.2.2.2.2.2)
      have hi0 : (0 : Int) ≤ (i : Int) := by omega
      have hiM : (i : Int) < (m : Int) := by omega
      have hz0 : (0 : Int) ≤ (z : Int) := by omega
      have hzM : (z : Int) < (m : Int) := by omega
      rw [eo, e]
      have HE := Lib.hid (And.intro eo e)
      have HS := Lib.hid hs
      clear eo e hio hi' hj hoa hzm hs
      go_wp2_with fail
      go_at_call 12
      refine (HBRG.out _).mono ?_
      rintro e w' ⟨rfl, rfl⟩
      go_wp2_with fail
      go_at_call 22
      refine (HAT.out _ HDR.out).mono ?_
      rintro e w6 ⟨rfl, hb⟩
      have hal := (Below.refl w6.heap.size w6).alloc (Nat.le_refl _) (.cells #[.int .i64 a, .int .i64 b, .int .i64 d, .int .i64 g] 36)
      have hbb := pure_trans hb hal
      have HX7 := Lib.hid (Blk.new w6 36 #[.int .i64 a, .int .i64 b, .int .i64 d, .int .i64 g])
      have HR7 := Lib.hid (HRR.out.pure hbb)
      have HD7 := Lib.hid (HDR.out.pure hbb)
      have HB7 := Lib.hid (pure_below HBR.out hbb)
      have HS7 := Lib.hid (cell_pure hbb HS.out)
      clear hb hal hbb ho HS r0 r1 r2 r3
      go_upto_region 11 with fail
      generalize w6.alloc (.cells #[.int .i64 a, .int .i64 b, .int .i64 d, .int .i64 g] 36) = w7 at HX7 HR7 HD7 HB7 HS7 ⊢
      generalize w6.heap.size = b13 at HX7 ⊢
      have r0 := cell0 HX7.out
      have r1 := cell1 HX7.out
      have r2 := cell2 HX7.out
      have r3 := cell3 HX7.out
      go_wp2_with fail
      go_at_call 23
      refine (HSI.out _ HD7.out).mono ?_
      rintro e w8 ⟨rfl, hb⟩
      have HX8 := Lib.hid (HX7.out.pure hb)
      have HR8 := Lib.hid (HR7.out.pure hb)
      have HD8 := Lib.hid (HD7.out.pure hb)
      have HB8 := Lib.hid (pure_below HB7.out hb)
      have t4 := cell_pure hb HS7.out
      clear hb HS7 r0 r1 r2 r3 HX7 HR7 HD7 HB7
      go_upto_region 12 with fail
      have r0 := cell0 HR8.out
      have r1 := cell1 HR8.out
      have r2 := cell2 HR8.out
      have r3 := cell3 HR8.out
      have x0 := cell0 HX8.out
      have x1 := cell1 HX8.out
      have x2 := cell2 HX8.out
      have x3 := cell3 HX8.out
      go_region_held3 (fun w' => w'.cell? ⟨b7, 0, none⟩ = some (.int .i64 p) ∧ w'.cell? ⟨b7, 1, none⟩ = some (.int .i64 q) ∧ w'.cell? ⟨b7, 2, none⟩ = some (.int .i64 t) ∧ w'.cell? ⟨b7, 3, none⟩ = some (.int .i64 v) ∧ w'.cell? ⟨b13, 0, none⟩ = some (.int .i64 a) ∧ w'.cell? ⟨b13, 1, none⟩ = some (.int .i64 b) ∧ w'.cell? ⟨b13, 2, none⟩ = some (.int .i64 d) ∧ w'.cell? ⟨b13, 3, none⟩ = some (.int .i64 g) ∧ w'.cell? ⟨ga, off + z, none⟩ = some (.string ⟨y.toArray⟩))
        (first | with_reducible exact ⟨r0, r1, r2, r3, x0, x1, x2, x3, t4⟩ | with_reducible exact ⟨kdrew r0, kdrew r1, kdrew r2, kdrew r3, kdrew x0, kdrew x1, kdrew x2, kdrew x3, kdrew t4⟩)
        (first
          | (go_at_call 30; (with_reducible refine (HTE.out _ (isl_drew HD8.out)).mono ?_); rintro e w9 ⟨rfl, hb⟩; have hbx := pure_trans (below_drew w8) hb; have HD9 := Lib.hid (HD8.out.pure hbx); have HB9 := Lib.hid (pure_below HB8.out hbx); replace r0 := cell_pure hbx r0; replace r1 := cell_pure hbx r1; replace r2 := cell_pure hbx r2; replace r3 := cell_pure hbx r3; replace x0 := cell_pure hbx x0; replace x1 := cell_pure hbx x1; replace x2 := cell_pure hbx x2; replace x3 := cell_pure hbx x3; replace t4 := cell_pure hbx t4; clear hb hbx)
          | (go_at_call 31; (with_reducible refine (HFI.out _ HD9.out).mono ?_); rintro e w10 ⟨rfl, hb⟩; have HB10 := Lib.hid (pure_below HB9.out hb); replace r0 := cell_pure hb r0; replace r1 := cell_pure hb r1; replace r2 := cell_pure hb r2; replace r3 := cell_pure hb r3; replace x0 := cell_pure hb x0; replace x1 := cell_pure hb x1; replace x2 := cell_pure hb x2; replace x3 := cell_pure hb x3; replace t4 := cell_pure hb t4; clear hb))
      clear r0 r1 r2 r3 x0 x1 x2 x3 t4
      go_wp2_with fail
      go_roundw
      case rel => exact ⟨i + 1, by omega, by go_num, HB10.out⟩
      case measure => simp [intOf]; omega
    · obtain rfl : m = i := by omega
      have hpast := HMD.out.past
      rw [List.length_map, fmE_len, HM.out] at hpast
      have HTE := Lib.hid (fun W (h : IsB W A3 n3 L) => tells_yes A3 n3 c3 p q t v (m : Int) 6 [] L W h HC.out HN.out hpast.1 hpast.2)
      clear hpast
      go_wp2_with fail
      go_at_call 30
      refine (HTE.out _ HDR.out).mono ?_
      rintro e w6 ⟨rfl, hb⟩
      have HB6 := Lib.hid (pure_below HB5.out (pure_below HBR.out hb))
      clear hb r0 r1 r2 r3
      go_wp2_with fail
      go_at_call 25
      refine (fiworks_spec _).mono ?_
      rintro e w7 ⟨rfl, hb⟩
      have HB7 := Lib.hid (pure_below HB6.out hb)
      clear hb
      go_wp2_with fail
      go_ret
      exact ⟨rfl, HB7.out⟩
end Go.Proofs.YtfoifdoaleaekaaGreat

namespace Go.Proofs.YtfoifdoaleaekaaGreat
open Go.RowKit Go.Acc Go.ChangeShapes Go.WideShapes Go.ChangeAt Go.Deep
set_option maxRecDepth 100000 in
theorem findOrder_run {H : Type} {enc : TypeId × Value → H} {v0 v1 : Value} {d0 d1 : DataW H} {p0 p1 : List MemPlace} (W : World) (base : Nat) (k0 : Value.okWide Tryz.prog W .any base 23 v0) (k1 : Value.okWide Tryz.prog W .any base 3 v1)
    (h0 : DataW.Trod enc Tryz.prog W 0 (fun _ => true) true 23 v0 d0 p0) (h1 : DataW.Trod enc Tryz.prog W 0 (fun _ => true) true 3 v1 d1 p1) :
    Calls Tryz.prog 7 #[v0, v1] W fun e w' => e = .returned (.bool true) ∧ Below W.heap.size W w' := by
  obtain ⟨A, n, c, l, rfl, hI⟩ := strs_arg k0 h0
  obtain ⟨fl, rfl, _⟩ := int_arg k1 h1
  exact findorder_spec A n c l fl W hI

set_option maxRecDepth 100000 in
theorem findOrder_lifted (os : Os) (started : os.Started) (H : Type) (enc : TypeId × Value → H) :
    ReturnsInHanded {} Tryz.checked os 7 .any (Rows.findOrderSpec.pre6 enc Tryz.prog Tryz.f7 Rows.findOrderRow.domain false) (Rows.findOrderSpec.post enc Tryz.prog Tryz.f7 false true false false) := by
  refine returnsInHanded_of_change (C := Tryz.checked) acc_own started (by kernel_rfl) Tryz.func7
    (ChangeSpec.witness6 (enc := enc) (C := Tryz.checked) false ⟨#[], #[.slice none 0 0, .int .i64 0], []⟩ 8 (by kernel_rfl) (by kernel_rfl) (by kernel_rfl) (by kernel_rfl)) ?_
  intro W base args ds gs before hval0 hW hcnd _
  have hval : ∀ (j : Nat) t v, Tryz.f7.params[j]? = some t → args[j]? = some v → Value.okWide Tryz.prog W .any base t v := hval0
  have hW' := hW
  obtain ⟨p, q, hA0, hV, rfl, hfz, hnd⟩ := hW
  have hA : DataW.TrodAll enc Tryz.prog W 0 (fun _ => true) true Tryz.f7.params.toList args.toList ds p := hA0
  rw [Tryz.params7] at hA
  rw [Tryz.params7] at hval
  obtain ⟨v0, vs0, d0, ds0, p0, q0, hargs, rfl, rfl, h0, r0⟩ := trodAll_cons hA
  obtain ⟨v1, vs1, d1, ds1, p1, q1, rfl, rfl, rfl, h1, r1⟩ := trodAll_cons r0
  obtain ⟨rfl, rfl, rfl⟩ := trodAll_nil r1
  obtain rfl : args = #[v0, v1] := by cases args; simp_all
  obtain ⟨rfl, rfl⟩ := trodVars_none hV
  have k0 := hval 0 23 v0 rfl rfl
  have k1 := hval 1 3 v1 rfl rfl
  clear hA0 hval0
  refine (findOrder_run (enc := enc) W base k0 k1 h0 h1).mono fun e W' ⟨he, bel⟩ => ?_
  subst he
  exact ⟨_, rfl, _, _, _, [], _, [], hW', trodAll_mk1 (shut_bool Tryz.underlying4 _), (trodAll_cons_mk (below_arg acc_laidOut (by kernel_rfl) (of_decide_eq_true (by kernel_rfl)) h0 bel) (trodAll_cons_mk (below_arg acc_laidOut (by kernel_rfl) (of_decide_eq_true (by kernel_rfl)) h1 bel) trodAll_mk0)), rfl, bel.frame _, fun h => by cases h⟩

theorem findOrder_holds : Rows.FindOrderSaid :=
  OpenClaim.holds_of_wide 7 Tryz.f7 rfl rfl rfl rfl rfl rfl rfl ⟨rfl, rfl, rfl, rfl, rfl⟩ rfl rfl rfl rfl rfl (by kernel_rfl) Tryz.func7 (by kernel_rfl)
    (of_decide_eq_true (by kernel_rfl)) (by unfold Func.isWrapper; rw [if_neg (of_decide_eq_false (by kernel_rfl))]; exact ⟨rfl, rfl⟩)
    (fun os started H enc _ => findOrder_lifted os started H enc)
#print axioms findOrder_holds
end Go.Proofs.YtfoifdoaleaekaaGreat
