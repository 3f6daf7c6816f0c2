/-
  TextHolds: the walk.
-/
import Derived.Test.YtjhigmgkmmjlfaaGreatQ28
import Derived.Test.YtjhigmgkmmjlfaaGreatQThB
import Derived.Deep.DeepCutAuto
import Derived.Deep.RegionLaw
namespace Go.Proofs.YtjhigmgkmmjlfaaGreat
open Go.RowKit Go.Acc
theorem short_to (s : List UInt8) (m : Nat) (w : World) : Calls Tryz.prog 21 #[.string ⟨s.toArray⟩, .int .i64 m] w fun e w' => e = .returned (.string ⟨(s.take m).toArray⟩) ∧ w = w' := by
  have hs : (⟨s.toArray⟩ : ByteArray).size = s.length := rfl
  by_cases h : m < s.length
  · have hm0 : (m : Int) ≤ s.length := by omega
    have hd : decide (m < s.length) = true := decide_eq_true h
    have he : (⟨s.toArray⟩ : ByteArray).extract 0 m = ⟨(s.take m).toArray⟩ := by
      rw [ByteArray.extract_mk, List.drop_zero, Nat.sub_zero]
    have HE := Lib.hid he
    clear he
    go_enter Tryz.func21, Tryz.ntmps21
    go_wp2
    go_ret
    refine ⟨?_, rfl⟩
    show Ending.returned (.string (ByteArray.extract ⟨s.toArray⟩ 0 (min (s.length : Int) (m : Int)).toNat)) = _
    rw [show (min (s.length : Int) (m : Int)).toNat = m by omega, HE.out]
  · have hd : decide (m < s.length) = false := decide_eq_false h
    have he : s.take m = s := List.take_of_length_le (by omega)
    have HE := Lib.hid he
    clear he
    go_enter Tryz.func21, Tryz.ntmps21
    go_wp2
    go_ret
    refine ⟨?_, rfl⟩
    show Ending.returned (.string (ByteArray.extract ⟨s.toArray⟩ 0 (min (s.length : Int) (m : Int)).toNat)) = _
    rw [show (min (s.length : Int) (m : Int)).toNat = s.length by omega, HE.out, ByteArray.extract_mk]
    simp
set_option maxRecDepth 100000 in
set_option maxHeartbeats 8000000 in
theorem tholds_ok (s : List UInt8) (kd ah K : Int) (i : Nat) (A : Option Addr) (n c : Nat) (z : List UInt8) (w : World) (hz : IsB w A n z) (hc : n ≤ c) (hk : kd % 3 = i) (hi : (i = 0 ∧ K = 5) ∨ (i = 1 ∧ K = 6) ∨ (i = 2 ∧ K = 7)) (he : txtE K (s.take 300) = 0) :
    Calls Tryz.prog 4 #[.string ⟨s.toArray⟩, .int .i64 kd, .agg #[.int .i64 ah, .slice A n c]] w fun e w' => e = .returned (.bool true) ∧ Below w.heap.size w w' := by
  have HSH := Lib.hid (fun w => short_to s 300 w)
  have HBR := Lib.hid (fun (w : World) => show Calls Tryz.prog 14 #[.int .i64 kd, .int .i64 3] w fun e w' => e = .returned (.int .i64 (i : Int)) ∧ w = w' by have h := bring_spec kd 3 w (by omega) (by omega); rw [hk] at h; exact h)
  have hKK : K = 5 ∨ K = 6 ∨ K = 7 := by omega
  have HI := Lib.hid hi
  have hi0 : (0 : Int) ≤ (i : Int) := by omega
  have hi3 : (i : Int) < 3 := by omega
  have hidx : (#[.int .i64 5, .int .i64 6, .int .i64 7] : Array Value)[i]? = some (.int .i64 K) := by rcases hi with ⟨rfl, rfl⟩ | ⟨rfl, rfl⟩ | ⟨rfl, rfl⟩ <;> rfl
  clear hi
  have hS3 : (s.take 300).length ≤ 300 := by rw [List.length_take]; omega
  generalize s.take 300 = S at HSH hS3 he
  obtain ⟨y, hy, hdl, hD⟩ := build_txt 0 (k := K) (s := S) hKK hS3 he
  have HD := Lib.hid hD
  have HDL := Lib.hid hdl
  have HY := Lib.hid hy
  have HZ := Lib.hid hz
  have HB0 := Lib.hid (show Below w.heap.size w (w.alloc (.cells #[.int .i64 ah, .slice A n c] 46)) from (Below.refl _ _).alloc (Nat.le_refl _) _)
  have HX := Lib.hid (Blk.new w 46 #[.int .i64 ah, .slice A n c])
  obtain ⟨f1, f2, f3, f4, f5⟩ := txt_facts S hKK hS3
  obtain ⟨hw0, _⟩ := leastW_is (fitsV (txtV K S) (txtB K S).length 0) (fitsV8 f4 0)
  rw [hy] at hw0
  obtain ⟨rt1, rt2⟩ := root_doc (x := []) (b := txtB K S) (v := txtV K S) (w := y) rfl (isW_nat.2 hw0) f1 f2
  rw [List.nil_append] at rt1 rt2
  have HF0 := fun (N : Nat) (hN : N % 8 = 0) (z' : List UInt8) => txt_find (x := List.replicate N 0) (z := z') hKK hS3 (fun hK5 => hasZero_no (by unfold txtE kErr at he; rw [if_pos hK5] at he; cases h : hasZero S with | false => rfl | true => rw [h] at he; simp at he)) (by simpa using hN) hy
  obtain ⟨P, hP⟩ : ∃ P, (alignB y (txtB K S)).length = P := ⟨_, rfl⟩
  obtain ⟨d, hd⟩ : ∃ d, docB (txtB K S) (txtV K S) y = d := ⟨_, rfl⟩
  obtain ⟨T, hT⟩ : ∃ T, (txtV K S).t = T := ⟨_, rfl⟩
  obtain ⟨V, hV⟩ : ∃ V, (txtV K S).w = V := ⟨_, rfl⟩
  have how : ownW y (txtV K S) = V := by unfold ownW; rw [f3, ← hV]; rfl
  have hPb : P ≤ 400 := by
    have h8 := alignB_le8 (txtB K S) (isW_nat.2 hw0)
    omega
  rw [how, hd, hP, hT] at rt2
  rw [hd] at rt1 HD HDL
  simp only [hd, hP, hT, hV, List.length_replicate] at HF0
  have HFF := Lib.hid HF0
  have HRE := Lib.hid rt1
  have HRR := Lib.hid rt2
  have HPB := Lib.hid hPb
  clear hD hdl hy hz hk he f1 f2 f3 f4 f5 hw0 rt1 rt2 HF0 hP hd hT hV how hPb HY
  go_enter Tryz.func4, Tryz.ntmps4
  go_wp2_with fail
  go_at_call 20
  refine (textworks_spec _).mono ?_
  rintro e w1 ⟨rfl, hb⟩
  have HB1 := Lib.hid (pure_below HB0.out hb)
  have HX1 := Lib.hid (HX.out.pure hb)
  clear hb HB0 HX
  go_wp2_with fail
  go_at_call 21
  refine (HSH.out _).mono ?_
  rintro e w' ⟨rfl, rfl⟩
  go_wp2_with fail
  go_at_call 14
  refine (HBR.out _).mono ?_
  rintro e w' ⟨rfl, rfl⟩
  go_wp2_with fail
  go_at_call 12
  have HB2 := Lib.hid ((HB1.out.alloc HB1.out.size (.cells #[.int .i64 5, .int .i64 6, .int .i64 7] 3)).alloc (by have h := HB1.out.size; simp; omega) (.cells #[.int .i64 K, .int .i64 0, .int .u64 ((0 : Nat) : Int), .string ⟨S.toArray⟩, .slice none 0 0, .slice none 0 0] 26))
  have HX2 := Lib.hid ((HX1.out.alloc (.cells #[.int .i64 5, .int .i64 6, .int .i64 7] 3)).alloc (.cells #[.int .i64 K, .int .i64 0, .int .u64 ((0 : Nat) : Int), .string ⟨S.toArray⟩, .slice none 0 0, .slice none 0 0] 26))
  refine (HD.out _).mono ?_
  intro e w2 hDoc
  obtain ⟨A1, n1, c1, rfl, hO, hb⟩ := hDoc
  have HO := Lib.hid hO
  have HN1 := Lib.hid (show n1 ≤ 1048576 by rw [← hO.1]; exact HDL.out)
  have HB3 := Lib.hid (pure_below HB2.out hb)
  have HX3 := Lib.hid (HX2.out.pure hb)
  have a0 : w2.cell? ⟨w.heap.size, 0, none⟩ = some (.int .i64 ah) := HX3.out.cell 0
  clear hb hO HB1 HX1 HB2 HX2
  obtain ⟨q, hq⟩ : ∃ q : Nat, ah % 4 = (q : Int) := ⟨(ah % 4).toNat, by omega⟩
  have hq4 : q < 4 := by omega
  obtain ⟨N, hN⟩ : ∃ N : Nat, 8 * q = N := ⟨_, rfl⟩
  have HN8 := Lib.hid (show N % 8 = 0 by omega)
  have HN32 := Lib.hid (show N ≤ 32 by omega)
  have e1 : 8 * (q : Int) = (N : Int) := by omega
  have HBA := Lib.hid (show Calls Tryz.prog 14 #[.int .i64 ah, .int .i64 4] w2 fun e w' => e = .returned (.int .i64 (q : Int)) ∧ w2 = w' by rw [← hq]; exact bring_spec ah 4 w2 (by omega) (by omega))
  clear hq hq4 hN
  go_wp2_with fail
  go_at_call 14
  refine HBA.out.mono ?_
  rintro e w' ⟨rfl, rfl⟩
  go_wp2_with fail
  go_at_call 15
  refine (root_spec2 A1 n1 c1 _ _ _ _ _ _ 0 HO.out.is (by have h1 := HN1.out; omega) HRR.out HRE.out).mono ?_
  rintro e w3 ⟨rfl, hb⟩
  have HB4 := Lib.hid (pure_below HB3.out hb)
  have HX4 := Lib.hid (HX3.out.pure hb)
  have HI4 := Lib.hid (HO.out.is.pure hb)
  have HC4 := Lib.hid HO.out.cap.1
  clear hb a0 HB3 HX3
  go_upto_region 12 with fail
  have hN32 := HN32.out
  have hP4 := HPB.out
  have e2 : wrap64 (N : Int) = (N : Int) := wrap64_in _ (by omega)
  have e3 : wrap64 ((P : Int) + (N : Int)) = ((N + P : Nat) : Int) := by rw [wrap64_in _ (by omega)]; omega
  simp only [e2, e3]
  clear e1 e2 e3 HBA hN32 hP4
  have HFN := Lib.hid (HFF.out N HN8.out)
  generalize N + P = Q at HFN ⊢
  have HB5 := Lib.hid (HB4.out.alloc HB4.out.size (.cells #[.int .i64 (Q : Int), .int .i64 (y : Int), .int .i64 (T : Int), .int .i64 (V : Int)] 36))
  have HX5 := Lib.hid (HX4.out.alloc (.cells #[.int .i64 (Q : Int), .int .i64 (y : Int), .int .i64 (T : Int), .int .i64 (V : Int)] 36))
  have HR5 := Lib.hid (Blk.new w3 36 #[.int .i64 (Q : Int), .int .i64 (y : Int), .int .i64 (T : Int), .int .i64 (V : Int)])
  have HI5 := Lib.hid (HI4.out.alloc (.cells #[.int .i64 (Q : Int), .int .i64 (y : Int), .int .i64 (T : Int), .int .i64 (V : Int)] 36))
  have HZ5 := Lib.hid (HZ.out.pure HB5.out)
  generalize w3.alloc (.cells #[.int .i64 (Q : Int), .int .i64 (y : Int), .int .i64 (T : Int), .int .i64 (V : Int)] 36) = w4 at HB5 HX5 HR5 HI5 HZ5 ⊢
  generalize w3.heap.size = b12 at HR5 ⊢
  clear HB4 HX4 HI4
  obtain ⟨Z, hZ1, hZ2, hmk⟩ := make_b N (by have := HN32.out; omega)
  obtain ⟨M, hMn, hMB, hmin, hcut⟩ := cut_facts A n c 60 60 rfl hc
  have HO5 := Lib.hid (show OwnB (w4.alloc (.cells Z 5)).drew w4.heap.size (some ⟨w4.heap.size, 0, none⟩) N N (List.replicate N 0) from ownb_at Z N _ rfl (by simp) (by have := HN32.out; omega) hZ2)
  have HIA := Lib.hid (show IsB (w4.alloc (.cells Z 5)).drew A1 n1 d from HI5.out.alloc (.cells Z 5))
  have HBA := Lib.hid (show Below w4.heap.size w4 (w4.alloc (.cells Z 5)).drew from ((Below.refl _ _).alloc (Nat.le_refl _) _).drew)
  have a1 : w4.cell? ⟨w.heap.size, 1, none⟩ = some (.slice A n c) := HX5.out.cell 1
  have a2 := kdrew (kalloc (.cells Z 5) a1)
  have a0 := kdrew a1
  have HN0 := Lib.hid (show N + n1 ≤ 1099511627776 by have h1 := HN32.out; have h2 := HN1.out; omega)
  have HM0 := Lib.hid (show N + n1 + M ≤ 1099511627776 by have h1 := HN32.out; have h2 := HN1.out; omega)
  have HMN := Lib.hid hMn
  have hmin2 : min (n : Int) 60 = (M : Int) := by rw [← hmin]; split <;> omega
  have hM0 : (0 : Int) ≤ (M : Int) := by omega
  have hMc : (M : Int) ≤ (c : Int) := by omega
  clear hZ1 hZ2 hMn hMB hmin
  go_cut [14] (fun u14 wx => ∃ wy, wy = wx ∧ ∃ A4 c4 m, u14 = .slice A4 m c4 ∧ IsB wx A4 m (List.replicate N 0 ++ d ++ z.take M) ∧ m ≤ c4 ∧ m ≤ 2097152 ∧ Below w4.heap.size w4 wx)
  case first =>
    go_region_held3 (fun w' => w'.cell? ⟨w.heap.size, 1, none⟩ = some (.slice A n c)) (first | with_reducible exact a1 | with_reducible exact kdrew a1 | with_reducible exact a2 | with_reducible exact kdrew (kalloc _ a1) | with_reducible exact kalloc _ a1 | with_reducible exact a3 | with_reducible exact kdrew a3 | with_reducible exact a4) (first
      | (refine step_app1 (f := bc) (e := 5) rfl (.tmp 65) (.tmp 66) 29 rfl (.int .u8 0) 1 Tryz.underlying29 info_b rfl (by omega) bc_len bc_one w4.heap.size _ N N (List.replicate N 0) rfl HO5.out A1 n1 c1 d rfl HIA.out HN0.out (show w4.heap.size ≤ _ from HBA.out.size) ?_; intro A2 c2 w5 hown hfr _; have HO6 := Lib.hid hown; have HB6 := Lib.hid (below_fr HBA.out hfr (by rintro j ⟨ad, e, rfl⟩; injection e with e; rw [← e]; exact Nat.le_refl _)); have a3 := cell_pure HB6.out a1; clear hown hfr)
      | (refine step_app1 (f := bc) (e := 5) rfl (.tmp 67) (.tmp 74) 29 rfl (.int .u8 0) 1 Tryz.underlying29 info_b rfl (by omega) bc_len bc_one w4.heap.size _ (N + n1) _ (List.replicate N 0 ++ d) rfl HO6.out A M c (z.take M) rfl ((HZ5.out.pure HB6.out).take bc_len HMN.out) HM0.out HB6.out.size ?_; intro A3 c3 w6 hown hfr _; have HO7 := Lib.hid hown; have HB7 := Lib.hid (below_fr HB6.out hfr (by rintro j ⟨ad, e, rfl⟩; exact (HO6.out.addr ad e).2.1)); have a4 := cell_pure HB7.out a1; clear hown hfr))
    all_goals
      go_wp2_with fail
      go_meet
      exact ⟨_, rfl, _, _, _, rfl, HO7.out.is, HO7.out.cap.1, by have h1 := HN32.out; have h2 := HN1.out; omega, HB7.out⟩
  case rest =>
    obtain ⟨w5, rfl, A4, c4, m, rfl, hI, hc4, hm2, hb⟩ := hcut
    have HB6 := Lib.hid (pure_below HB5.out hb)
    have HR6 := Lib.hid (HR5.out.pure hb)
    have HI6 := Lib.hid hI
    have hF := HFN.out (z.take M)
    have HML := Lib.hid hI.1
    have hm40 : m ≤ 1099511627776 := by omega
    generalize List.replicate N 0 ++ d ++ z.take M = L at HI6 HML hF
    obtain ⟨sk, hsk⟩ : ∃ x, fndL L Q y T V [4] = x := ⟨_, rfl⟩
    obtain ⟨ek, hek⟩ : ∃ x, fndE L Q y T V [4] = x := ⟨_, rfl⟩
    obtain ⟨ss, hss⟩ : ∃ x, fndL L Q y T V [5] = x := ⟨_, rfl⟩
    obtain ⟨es, hes⟩ : ∃ x, fndE L Q y T V [5] = x := ⟨_, rfl⟩
    obtain ⟨sb, hsb⟩ : ∃ x, fndL L Q y T V [25] = x := ⟨_, rfl⟩
    obtain ⟨eb, heb⟩ : ∃ x, fndE L Q y T V [25] = x := ⟨_, rfl⟩
    obtain ⟨st, hst⟩ : ∃ x, fndL L Q y T V [4, 5] = x := ⟨_, rfl⟩
    obtain ⟨et, het⟩ : ∃ x, fndE L Q y T V [4, 5] = x := ⟨_, rfl⟩
    have hT3 : isIn [4, 5, 25] (T : Int) = true := by rw [hF.ty]; rcases hKK with rfl | rfl | rfl <;> rfl
    obtain ⟨a, ha1, ha2, ha3⟩ := hF.at_
    obtain ⟨hp1, hp2⟩ := hF.yes _ hT3
    have hpa := ha1 _ hT3
    have HPA := Lib.hid hpa
    have HPL := Lib.hid (show ((fndL L Q y T V [4, 5, 25]).length : Int) = (S.length : Nat) by rw [hp2])
    have HPE := Lib.hid hp1
    have HA2 := Lib.hid ha2
    have HA3 := Lib.hid ha3
    have HF := Lib.hid hF
    have HK1 := Lib.hid (And.intro hsk hek)
    have HK2 := Lib.hid (And.intro hss hes)
    have HK3 := Lib.hid (And.intro hsb heb)
    have HK4 := Lib.hid (And.intro hst het)
    have r0 := cell0 HR6.out
    have r1 := cell1 HR6.out
    have r2 := cell2 HR6.out
    have r3 := cell3 HR6.out
    clear hsk hek hss hes hsb heb hst het hT3 ha1 ha2 ha3 hp1 hp2 hpa hF hI hb HR5 HX5 HI5 HZ5 a1 a2 a0
    go_wp2_with fail
    go_at_call 22
    refine (keyt_is A4 m c4 Q y T V L sk _ ek _ HI6.out hc4 hm40 HK1.out.1 HK1.out.2 rfl).mono ?_
    rintro e wn ⟨rfl, hb⟩
    replace HB6 := Lib.hid (pure_below HB6.out hb)
    replace HR6 := Lib.hid (HR6.out.pure hb)
    replace HI6 := Lib.hid (HI6.out.pure hb)
    clear hb r0 r1 r2 r3
    have r0 := cell0 HR6.out
    have r1 := cell1 HR6.out
    have r2 := cell2 HR6.out
    have r3 := cell3 HR6.out
    go_wp2_with fail
    go_at_call 23
    refine (strt_is A4 m c4 Q y T V L ss _ es _ HI6.out hc4 hm40 HK2.out.1 HK2.out.2 rfl).mono ?_
    rintro e wn ⟨rfl, hb⟩
    replace HB6 := Lib.hid (pure_below HB6.out hb)
    replace HR6 := Lib.hid (HR6.out.pure hb)
    replace HI6 := Lib.hid (HI6.out.pure hb)
    clear hb r0 r1 r2 r3
    have r0 := cell0 HR6.out
    have r1 := cell1 HR6.out
    have r2 := cell2 HR6.out
    have r3 := cell3 HR6.out
    go_wp2_with fail
    go_at_call 24
    refine (blobt_is A4 m c4 Q y T V L sb _ eb _ HI6.out hc4 hm40 HK3.out.1 HK3.out.2 rfl).mono ?_
    rintro e wn ⟨rfl, hb⟩
    replace HB6 := Lib.hid (pure_below HB6.out hb)
    replace HR6 := Lib.hid (HR6.out.pure hb)
    replace HI6 := Lib.hid (HI6.out.pure hb)
    clear hb r0 r1 r2 r3
    have r0 := cell0 HR6.out
    have r1 := cell1 HR6.out
    have r2 := cell2 HR6.out
    have r3 := cell3 HR6.out
    go_wp2_with fail
    go_at_call 25
    refine (textt_is A4 m c4 Q y T V L st _ et _ HI6.out hc4 hm40 HK4.out.1 HK4.out.2 rfl).mono ?_
    rintro e wn ⟨rfl, hb⟩
    replace HB6 := Lib.hid (pure_below HB6.out hb)
    replace HR6 := Lib.hid (HR6.out.pure hb)
    replace HI6 := Lib.hid (HI6.out.pure hb)
    clear hb r0 r1 r2 r3
    have r0 := cell0 HR6.out
    have r1 := cell1 HR6.out
    have r2 := cell2 HR6.out
    have r3 := cell3 HR6.out
    go_wp2_with fail
    go_at_call 26
    refine (place_is A4 m c4 Q y T V L (a : Int) (S.length : Nat) 0 _ HI6.out hc4 hm40 HPA.out HPL.out HPE.out).mono ?_
    rintro e wn ⟨rfl, hb⟩
    replace HB6 := Lib.hid (pure_below HB6.out hb)
    replace HR6 := Lib.hid (HR6.out.pure hb)
    replace HI6 := Lib.hid (HI6.out.pure hb)
    clear hb r0 r1 r2 r3
    have r0 := cell0 HR6.out
    have r1 := cell1 HR6.out
    have r2 := cell2 HR6.out
    have r3 := cell3 HR6.out
    have hty := HF.out.ty
    have HTY := Lib.hid (show (K = 5 → T = 4) ∧ (K = 6 → T = 5) ∧ (K = 7 → T = 25) from ⟨by rintro rfl; simp at hty; omega, by rintro rfl; simp at hty; omega, by rintro rfl; simp at hty; omega⟩)
    clear hty
    obtain ⟨h9, hh9⟩ : ∃ h9, a + S.length = h9 := ⟨_, rfl⟩
    obtain ⟨l9, hl9⟩ : ∃ l9, m - S.length = l9 := ⟨_, rfl⟩
    obtain ⟨hX, hXle, hXlb⟩ : a ≤ h9 ∧ h9 ≤ m ∧ a ≤ l9 := by have h1 := HA2.out; have h2 := HML.out; omega
    obtain ⟨X, hX1, hX2⟩ := cut_any A4 m c4 a h9 hX hXle hc4
    have hcv := run_str (c := c4 - a) (hX2 _ _ HI6.out)
    rw [show (L.drop a).take (h9 - a) = S by rw [show h9 - a = S.length by omega]; exact HA3.out] at hcv
    have hda : decide ((a : Int) < 0) = false := decide_eq_false (by omega)
    have hdl : decide ((l9 : Int) < (a : Int)) = false := decide_eq_false (by omega)
    have hdl2 : decide (l9 < a) = false := decide_eq_false (by omega)
    have hle : (S.length : Int) ≤ (m : Int) := by omega
    have e9 : (a : Int) + (S.length : Int) = (h9 : Int) := by omega
    have e10 : (m : Int) - (S.length : Int) = (l9 : Int) := by omega
    have hb9 : (h9 : Int) ≤ 2097152 := by omega
    have hb10 : (l9 : Int) ≤ 2097152 := by omega
    have hb90 : (0 : Int) ≤ (h9 : Int) := by omega
    have hb100 : (0 : Int) ≤ (l9 : Int) := by omega
    clear hh9 hl9 hle
    clear hX hXle hXlb
    rcases HI.out with ⟨rfl, rfl⟩ | ⟨rfl, rfl⟩ | ⟨rfl, rfl⟩
    · obtain rfl : T = 4 := HTY.out.1 rfl
      have y1 := HF.out.yes [4] rfl
      have y2 := HF.out.no [5] rfl
      have y3 := HF.out.no [25] rfl
      have y4 := HF.out.yes [4, 5] rfl
      as_aux_lemma =>
      obtain ⟨h1, h2⟩ := HK1.out
      rw [y1.2] at h1
      rw [y1.1] at h2
      subst h1 h2
      obtain ⟨h1, h2⟩ := HK2.out
      rw [y2.2] at h1
      rw [y2.1] at h2
      subst h1 h2
      obtain ⟨h1, h2⟩ := HK3.out
      rw [y3.2] at h1
      rw [y3.1] at h2
      subst h1 h2
      obtain ⟨h1, h2⟩ := HK4.out
      rw [y4.2] at h1
      rw [y4.1] at h2
      subst h1 h2
      clear y1 y2 y3 y4
      go_wp2_with (go_at_call 27; refine (is23_yes _ _ _).mono ?_; rintro e w' ⟨rfl, rfl⟩)
      go_ret
      exact ⟨rfl, HB6.out⟩
    · obtain rfl : T = 5 := HTY.out.2.1 rfl
      have y1 := HF.out.no [4] rfl
      have y2 := HF.out.yes [5] rfl
      have y3 := HF.out.no [25] rfl
      have y4 := HF.out.yes [4, 5] rfl
      as_aux_lemma =>
      obtain ⟨h1, h2⟩ := HK1.out
      rw [y1.2] at h1
      rw [y1.1] at h2
      subst h1 h2
      obtain ⟨h1, h2⟩ := HK2.out
      rw [y2.2] at h1
      rw [y2.1] at h2
      subst h1 h2
      obtain ⟨h1, h2⟩ := HK3.out
      rw [y3.2] at h1
      rw [y3.1] at h2
      subst h1 h2
      obtain ⟨h1, h2⟩ := HK4.out
      rw [y4.2] at h1
      rw [y4.1] at h2
      subst h1 h2
      clear y1 y2 y3 y4
      go_wp2_with (go_at_call 27; refine (is23_yes _ _ _).mono ?_; rintro e w' ⟨rfl, rfl⟩)
      go_ret
      exact ⟨rfl, HB6.out⟩
    · obtain rfl : T = 25 := HTY.out.2.2 rfl
      have y1 := HF.out.no [4] rfl
      have y2 := HF.out.no [5] rfl
      have y3 := HF.out.yes [25] rfl
      have y4 := HF.out.no [4, 5] rfl
      as_aux_lemma =>
      obtain ⟨h1, h2⟩ := HK1.out
      rw [y1.2] at h1
      rw [y1.1] at h2
      subst h1 h2
      obtain ⟨h1, h2⟩ := HK2.out
      rw [y2.2] at h1
      rw [y2.1] at h2
      subst h1 h2
      obtain ⟨h1, h2⟩ := HK3.out
      rw [y3.2] at h1
      rw [y3.1] at h2
      subst h1 h2
      obtain ⟨h1, h2⟩ := HK4.out
      rw [y4.2] at h1
      rw [y4.1] at h2
      subst h1 h2
      clear y1 y2 y3 y4
      go_wp2_with (go_at_call 27; refine (is23_yes _ _ _).mono ?_; rintro e w' ⟨rfl, rfl⟩)
      go_ret
      exact ⟨rfl, HB6.out⟩
end Go.Proofs.YtjhigmgkmmjlfaaGreat
