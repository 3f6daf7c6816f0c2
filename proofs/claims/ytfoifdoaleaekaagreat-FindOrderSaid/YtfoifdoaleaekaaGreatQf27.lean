/-
  Package maps: Put, Keys.
  Package pool: the place of a string.
-/
import Derived.Test.YtfoifdoaleaekaaGreatQf26
namespace Go.Proofs.YtfoifdoaleaekaaGreat
open Go.RowKit Go.Acc
structure MpS (b b6 b4 n : Nat) (A : Option Addr) (vs : List Bv) (kv : Bv) (l : List UInt8) (w : World) (o : Nat → Nat) : Prop where
  m : Buf w o b l
  r : Blk w b6 185 #[.int .i64 0, .int .i64 0, .int .u64 0]
  or_ : o b6 = 0
  k : Blk w b4 185 #[.int .i64 (kv.t : Int), .int .i64 (kv.w : Int), .int .u64 (kv.n : Int)]
  ok_ : o b4 = 0
  v : IsV w A n (vs.map vv)
  ov : ∀ ad, A = some ad → ad.block < w.heap.size ∧ o ad.block ≠ 1
section
variable {b b6 b4 n : Nat} {A : Option Addr} {vs : List Bv} {kv : Bv} {l l' : List UInt8} {w w' : World} {o o' : Nat → Nat}
theorem MpS.to_ (h : MpS b b6 b4 n A vs kv l w o) (ht : To (fun i => i = 1) w o w' o') (hb : Buf w' o' b l') : MpS b b6 b4 n A vs kv l' w' o' :=
  ⟨hb, h.r.to_ ht (by rw [h.or_]; omega), by rw [ht.ow _ h.r.lt]; exact h.or_, h.k.to_ ht (by rw [h.ok_]; omega), by rw [ht.ow _ h.k.lt]; exact h.ok_,
    h.v.fr ht.fr (fun ad e => (h.ov ad e).2), fun ad e => ⟨Nat.lt_of_lt_of_le (h.ov ad e).1 ht.size, by rw [ht.ow _ (h.ov ad e).1]; exact (h.ov ad e).2⟩⟩
theorem MpS.pure (h : MpS b b6 b4 n A vs kv l w o) (hb : Below w.heap.size w w') : MpS b b6 b4 n A vs kv l w' o := h.to_ (To.pure _ hb o) (h.m.pure hb)
theorem MpS.fresh (h : MpS b b6 b4 n A vs kv l w o) (hb : Below w.heap.size w w') : MpS b b6 b4 n A vs kv l w' (newO o w.heap.size 0) := h.to_ (To.fresh _ hb o 0) (h.m.fresh hb 0)
theorem MpS.kc (h : MpS b b6 b4 n A vs kv l w o) : w.cell? ⟨b4, 0, none⟩ = some (.int .i64 (kv.t : Int)) ∧ w.cell? ⟨b4, 1, none⟩ = some (.int .i64 (kv.w : Int)) ∧ w.cell? ⟨b4, 2, none⟩ = some (.int .u64 (kv.n : Int)) := ⟨h.k.cell 0, h.k.cell 1, h.k.cell 2⟩
end
theorem all_3 (kv : Bv) (vs : List Bv) (a n c : Nat) (A : Option Addr) (w : World) (r : Nat) (hv : IsV w A n (vs.map vv)) (ha : a ≤ 1048576) (hn : n ≤ 1000000) (hr : fitAll a 3 (some kv) vs = r) :
    Calls Tryz.prog 243 #[.int .i64 (a : Int), .int .i64 3, .agg #[.int .i64 (kv.t : Int), .int .i64 (kv.w : Int), .int .u64 (kv.n : Int)], .slice A n c] w fun e w' => e = .returned (.int .i64 (r : Int)) ∧ Below w.heap.size w w' := by
  have h := all_spec kv vs a 3 n c A w hv ha hn (.inr (.inr rfl))
  rw [show koOf 3 kv = some kv from rfl, hr] at h
  exact h
theorem mfit_facts {vs : List Bv} {kv : Bv} {l : List UInt8} {y : Nat} (hok : VecOk vs l) (hkf : Fit l.length kv) (hk : inl kv.t = false) (hy : fitAll l.length 3 (some kv) vs = y) :
    isW (y : Int) = true ∧ fitsL l.length y 3 vs = true ∧ bWidth vs.length ≤ y ∧ kv.n ≤ (alignB y l).length ∧ (alignB y l).length - kv.n < 2 ^ (8 * y) := by
  have h1 := fitAll8 (a := l.length) (ahead := 3) (k := some kv) (vs := vs) (fun x h => by injection h with h; subst h; exact hkf) hok.fit
  obtain ⟨h2, h4, h3⟩ := fitAll_is (a := l.length) (ahead := 3) (k := some kv) (vs := vs) (fun x h => by injection h with h; subst h; exact hkf) hok.fit
  rw [hy] at h1 h2 h3 h4
  obtain ⟨q1, q2⟩ := fits_off hk (h4 kv rfl)
  obtain ⟨a1, a2, a3⟩ := align_len h1 l
  have hy8 : y ≤ 8 := by have := w_cases h1; omega
  have h8 := alignB_len l hy8
  have hlen := hok.len
  rw [Nat.zero_mul, Nat.add_zero, ← a1] at q2
  exact ⟨h1, h3, h2.resolve_left (by omega), by omega, bWidth_lt h1 (by omega) q2⟩
set_option maxRecDepth 100000 in
set_option maxHeartbeats 4000000 in
theorem mput_spec (b n c : Nat) (A : Option Addr) (vs : List Bv) (kv : Bv) (l : List UInt8) (w : World) (o : Nat → Nat) (h : Buf w o b l) (hv : IsV w A n (vs.map vv)) (ho : ∀ ad, A = some ad → ad.block < w.heap.size ∧ o ad.block ≠ 1) (hok : VecOk vs l)
    (hkt : kv.t = 14) (hkw : isW (kv.w : Int) = true) (hkf : Fit l.length kv) :
    Calls Tryz.prog 226 #[.pointer (some ⟨b, 0, none⟩), .agg #[.int .i64 (kv.t : Int), .int .i64 (kv.w : Int), .int .u64 (kv.n : Int)], .slice A n c] w (VPutW w o b (mapB kv vs l)) := by
  have hki : inl kv.t = false := by rw [hkt]; decide
  obtain ⟨y, hyy⟩ : ∃ y, fitAll l.length 3 (some kv) vs = y := ⟨_, rfl⟩
  obtain ⟨hyw, hyf, hyb, hk1, hk2⟩ := mfit_facts hok hkf hki hyy
  have HYY := Lib.hid hyy
  have HYW := Lib.hid hyw
  have HYF := Lib.hid hyf
  have HYB := Lib.hid hyb
  have HK12 := Lib.hid (And.intro hk1 hk2)
  have HKI := Lib.hid hki
  have HKT := Lib.hid hkt
  have HKW := Lib.hid hkw
  have hy8 : 1 ≤ y ∧ y ≤ 8 := by have := w_cases hyw; omega
  have hyne : ((y : Int) == 0) = false := by rw [beq_eq_false_iff_ne]; omega
  have HLEN := Lib.hid hok.len
  obtain ⟨a, ha⟩ : ∃ a, l.length = a := ⟨_, rfl⟩
  have HA := Lib.hid ha
  have ha2 : a ≤ 1048576 := by have := hok.len; omega
  have HA2 := Lib.hid ha2
  have HOK := Lib.hid hok
  have HVL := Lib.hid (isv_len hv)
  have hn1 : n ≤ 1000000 := by
    have h1 := hok.len
    have h2 := isv_len hv
    omega
  have hB0 := below_two w (.cells #[.int .i64 (kv.t : Int), .int .i64 (kv.w : Int), .int .u64 (kv.n : Int)] 185) (.cells #[.int .i64 0, .int .i64 0, .int .u64 0] 185)
  have HS0 := Lib.hid (show MpS b (w.heap.size + 1) w.heap.size n A vs kv l ((w.alloc (.cells #[.int .i64 (kv.t : Int), .int .i64 (kv.w : Int), .int .u64 (kv.n : Int)] 185)).alloc (.cells #[.int .i64 0, .int .i64 0, .int .u64 0] 185)) (newO o w.heap.size 0) from
    ⟨h.fresh hB0 0, blk_new2 w _ _ _, newO_new (by omega), (Blk.new w 185 #[.int .i64 (kv.t : Int), .int .i64 (kv.w : Int), .int .u64 (kv.n : Int)]).alloc _, newO_new (Nat.le_refl _), hv.pure hB0, fun ad e => by
      have h1 := ho ad e
      exact ⟨by have := hB0.size; omega, by rw [newO_old h1.1]; exact h1.2⟩⟩)
  have HT1 := Lib.hid (To.fresh (fun i => i = 1) hB0 o 0)
  clear hyy hyw hyf hyb ha h hv ho hok hB0 hki hkt hkw hkf hk1 hk2
  go_enter Tryz.func226, Tryz.ntmps226
  go_wp2_with fail
  go_at_call 201
  have HB6 := Lib.hid (show w.heap.size ≤ w.heap.size + 1 by omega)
  generalize (w.alloc (.cells #[.int .i64 (kv.t : Int), .int .i64 (kv.w : Int), .int .u64 (kv.n : Int)] 185)).alloc (.cells #[.int .i64 0, .int .i64 0, .int .u64 0] 185) = w1 at HS0 HT1 ⊢
  generalize newO o w.heap.size 0 = o1 at HS0 HT1
  generalize w.heap.size + 1 = b6 at HS0 HB6 ⊢
  generalize hb4 : w.heap.size = b4 at HS0 ⊢
  have HB4 := Lib.hid (show w.heap.size ≤ b4 by omega)
  clear hb4
  refine (berr_is HS0.out.m).mono ?_
  rintro e w' ⟨rfl, rfl⟩
  obtain ⟨k0, k1, k2⟩ := HS0.out.kc
  go_wp2_with fail
  go_at_call 250
  refine (mcheck_spec kv n c A vs _ HS0.out.v hn1 HKT.out HKW.out (fun v hm => ⟨HOK.out.legal v hm, HOK.out.own v hm⟩)).mono ?_
  rintro e w2 ⟨rfl, hb⟩
  replace HS0 := Lib.hid (HS0.out.pure hb)
  replace HT1 := Lib.hid (HT1.out.trans (To.pure _ hb o1))
  clear hb k0 k1 k2
  obtain ⟨k0, k1, k2⟩ := HS0.out.kc
  go_wp2_with fail
  go_region_held3 (fun w' => w'.cell? ⟨b4, 0, none⟩ = some (.int .i64 (kv.t : Int)) ∧ w'.cell? ⟨b4, 1, none⟩ = some (.int .i64 (kv.w : Int)) ∧ w'.cell? ⟨b4, 2, none⟩ = some (.int .u64 (kv.n : Int))) (first | with_reducible exact ⟨k0, k1, k2⟩ | with_reducible exact ⟨kdrew k0, kdrew k1, kdrew k2⟩ | with_reducible exact ⟨t0, t1, t2⟩) (first | (go_at_call 129; (with_reducible refine (blen_is a (HS0.out.pure (Below.refl _ _).drew).m HA.out).mono ?_); rintro e w' ⟨rfl, rfl⟩) | (go_at_call 243; (with_reducible refine (all_3 kv vs a n c A _ y (HS0.out.pure (Below.refl _ _).drew).v HA2.out hn1 (by rw [← HA.out]; exact HYY.out)).mono ?_); rintro e w3 ⟨rfl, hb⟩; have hbd := pure_trans (Below.refl _ _).drew hb; have HS1 := Lib.hid (HS0.out.pure hbd); have t0 := cell_pure hbd k0; have t1 := cell_pure hbd k1; have t2 := cell_pure hbd k2; have HT2 := Lib.hid (HT1.out.trans (To.pure _ hbd o1)); clear hb hbd))
  clear k0 k1 k2
  replace HT1 := HT2
  clear HT2 HS0
  have HAL := Lib.hid (alignB_len l hy8.2)
  have hAW := (Below.refl w3.heap.size w3).alloc (Nat.le_refl _) (.cells #[.pointer (some ⟨b, 0, none⟩), .int .i64 (y : Int)] 304)
  have HS2 := Lib.hid (HS1.out.fresh hAW)
  have HW2 := Lib.hid (Blk.new w3 304 #[.pointer (some ⟨b, 0, none⟩), .int .i64 (y : Int)])
  have HO2 := Lib.hid (show newO o1 w3.heap.size 0 w3.heap.size = 0 from newO_new (Nat.le_refl _))
  replace HT1 := Lib.hid (HT1.out.trans (To.fresh _ hAW o1 0))
  clear hAW HS1 t0 t1 t2
  go_wp2_with fail
  go_at_call 130
  generalize w3.alloc (.cells #[.pointer (some ⟨b, 0, none⟩), .int .i64 (y : Int)] 304) = w4 at HS2 HW2 HT1 ⊢
  generalize newO o1 w3.heap.size 0 = o2 at HS2 HO2 HT1
  generalize w3.heap.size = g at HW2 HO2 ⊢
  refine (balign_spec b y l _ o2 HS2.out.m HYW.out (by have := HLEN.out; omega)).mono ?_
  rintro e w5 ⟨rfl, o5, hB, hT⟩
  have hgl := HW2.out.lt
  replace HW2 := Lib.hid (HW2.out.to_ hT (by rw [HO2.out]; omega))
  replace HO2 := Lib.hid (show o5 g = 0 by rw [hT.ow _ hgl]; exact HO2.out)
  replace HS2 := Lib.hid (HS2.out.to_ hT hB)
  replace HT1 := Lib.hid (HT1.out.trans hT)
  clear hB hT hgl
  obtain ⟨k0, k1, k2⟩ := HS2.out.kc
  have x0 : w5.cell? ⟨g, 0, none⟩ = some (.pointer (some ⟨b, 0, none⟩)) := HW2.out.cell 0
  have x1 : w5.cell? ⟨g, 1, none⟩ = some (.int .i64 (y : Int)) := HW2.out.cell 1
  go_wp2_with fail
  go_at_call 251
  refine (element_spec b y kv (alignB y l) _ o5 HS2.out.m HYW.out (fun _ => HK12.out) (by have h1 := HLEN.out; have h2 := HAL.out; omega)).mono ?_
  rintro e w6 ⟨rfl, o6, hB, hT⟩
  have hgl := HW2.out.lt
  replace HW2 := Lib.hid (HW2.out.to_ hT (by rw [HO2.out]; omega))
  replace HO2 := Lib.hid (show o6 g = 0 by rw [hT.ow _ hgl]; exact HO2.out)
  replace HS2 := Lib.hid (HS2.out.to_ hT hB)
  replace HT1 := Lib.hid (HT1.out.trans hT)
  clear hB hT hgl
  clear k0 k1 k2 x0 x1
  obtain ⟨k0, k1, k2⟩ := HS2.out.kc
  have x0 : w6.cell? ⟨g, 0, none⟩ = some (.pointer (some ⟨b, 0, none⟩)) := HW2.out.cell 0
  have x1 : w6.cell? ⟨g, 1, none⟩ = some (.int .i64 (y : Int)) := HW2.out.cell 1
  have hkw64 : IntKind.u64.wrap (kv.w : Int) = (kv.w : Int) := u64_in _ (by have := w_cases HKW.out; omega)
  have HKV := Lib.hid (show fitsU y kv.w = true from decide_eq_true (.inr (by
    have h1 := w_cases HKW.out
    have h2 : 2 ^ (8 * 1) ≤ 2 ^ (8 * y) := Nat.pow_le_pow_right (by omega) (by omega)
    omega)))
  have HKB := Lib.hid (show (kv.w : Int) < 18446744073709551616 by have := w_cases HKW.out; omega)
  have HKE := Lib.hid (show elemN y (alignB y l).length kv = (alignB y l).length - kv.n by unfold elemN; rw [if_neg (by rw [HKI.out]; decide)])
  rw [HKE.out] at HS2
  go_wp2_with fail
  go_at_call 133
  refine (bnum_spec b y kv.w _ _ o6 HS2.out.m HYW.out HKV.out HKB.out (by have h1 := HLEN.out; have h2 := HAL.out; rw [List.length_append, leBytes_length]; omega)).mono ?_
  rintro e w7 ⟨rfl, o7, hB, hT⟩
  have hgl := HW2.out.lt
  replace HW2 := Lib.hid (HW2.out.to_ hT (by rw [HO2.out]; omega))
  replace HO2 := Lib.hid (show o7 g = 0 by rw [hT.ow _ hgl]; exact HO2.out)
  replace HS2 := Lib.hid (HS2.out.to_ hT hB)
  replace HT1 := Lib.hid (HT1.out.trans hT)
  clear hB hT hgl
  clear k0 k1 k2 x0 x1 hkw64
  have x0 : w7.cell? ⟨g, 0, none⟩ = some (.pointer (some ⟨b, 0, none⟩)) := HW2.out.cell 0
  have x1 : w7.cell? ⟨g, 1, none⟩ = some (.int .i64 (y : Int)) := HW2.out.cell 1
  have hnw : IntKind.u64.wrap (n : Int) = (n : Int) := u64_in _ (by omega)
  have HNV := Lib.hid (show fitsU y n = true from decide_eq_true (.inr (by
    have h1 := HYB.out
    rw [HVL.out] at h1
    exact bWidth_lt HYW.out (by omega) h1)))
  go_wp2_with fail
  go_at_call 133
  refine (bnum_spec b y n _ _ o7 HS2.out.m HYW.out HNV.out (by omega) (by have h1 := HLEN.out; have h2 := HAL.out; rw [List.length_append, List.length_append, leBytes_length, leBytes_length]; omega)).mono ?_
  rintro e w8 ⟨rfl, o8, hB, hT⟩
  have hgl := HW2.out.lt
  replace HW2 := Lib.hid (HW2.out.to_ hT (by rw [HO2.out]; omega))
  replace HO2 := Lib.hid (show o8 g = 0 by rw [hT.ow _ hgl]; exact HO2.out)
  replace HS2 := Lib.hid (HS2.out.to_ hT hB)
  replace HT1 := Lib.hid (HT1.out.trans hT)
  clear hB hT hgl
  clear x0 x1 hnw
  obtain ⟨cc, hcc⟩ : ∃ cc, alignB y l ++ leBytes y ((alignB y l).length - kv.n) ++ leBytes y kv.w ++ leBytes y n = cc := ⟨_, rfl⟩
  have HCC := Lib.hid hcc
  have HCL := Lib.hid (show cc.length = (alignB y l).length + 3 * y by rw [← hcc]; simp only [List.length_append, leBytes_length]; omega)
  rw [hcc] at HS2
  obtain ⟨q, hq⟩ : ∃ q, cc.length = q := ⟨_, rfl⟩
  have HQ := Lib.hid hq
  have HQ2 := Lib.hid (show q + 9 * n ≤ 1048576 by
    have h1 := HLEN.out; have h2 := HAL.out; have h3 := HCL.out; have h4 := HVL.out; omega)
  have HEF := Lib.hid (elems_fit (k := 3) (by omega) HYW.out HYF.out HLEN.out (c := cc) HCL.out)
  have x0 : w8.cell? ⟨g, 0, none⟩ = some (.pointer (some ⟨b, 0, none⟩)) := HW2.out.cell 0
  clear hcc hq
  go_wp2_with fail
  go_at_call 129
  refine (blen_is q HS2.out.m HQ.out).mono ?_
  rintro e w' ⟨rfl, rfl⟩
  clear x0
  go_wp2_with fail
  go_loopw [68] (fun u wr => ∃ k : Nat, k ≤ n ∧ u = .int .i64 k ∧ ∃ o', MpS b b6 b4 n A vs kv (elemsB y cc (vs.take k)) wr o' ∧ Blk wr g 304 #[.pointer (some ⟨b, 0, none⟩), .int .i64 (y : Int)] ∧ o' g = 0 ∧ To (fun i => i = 1) w o wr o') (fun u _ => n - (intOf u).toNat)
  case atStart => exact ⟨0, Nat.zero_le _, rfl, o8, by rw [List.take_zero]; exact HS2.out, HW2.out, HO2.out, HT1.out⟩
  case round =>
    obtain ⟨k, hk, rfl, o', hs, hw, hog, ht⟩ := hrel
    have HSR := Lib.hid hs
    have HWR := Lib.hid hw
    have HOR := Lib.hid hog
    have HTR := Lib.hid ht
    clear hs hw hog ht HS2 HW2 HO2 HT1
    by_cases hlt : k < n
    · obtain ⟨g1, off, v, hA, hvk, h0, h1, h2⟩ := isv_bv HSR.out.v hlt
      subst hA
      have HT := Lib.hid (elemsB_take y vs k v cc hvk)
      have HEL := Lib.hid (show (elemsB y cc (vs.take k)).length = cc.length + k * y by rw [elemsB_len2, List.length_take, HVL.out, Nat.min_eq_left (by omega)])
      have HEV := Lib.hid (show inl v.t = false → v.n ≤ (elemsB y cc (vs.take k)).length ∧ (elemsB y cc (vs.take k)).length - v.n < 2 ^ (8 * y) by rw [HEL.out]; exact HEF.out k v hvk)
      have HELB := Lib.hid (show (elemsB y cc (vs.take k)).length + y ≤ 1048576 by
        rw [HEL.out, HQ.out]
        have h3 := HQ2.out
        have h4 : (k + 1) * y ≤ n * 8 := Nat.mul_le_mul (by omega) hy8.2
        rw [Nat.succ_mul] at h4
        omega)
      have hk0 : (0 : Int) ≤ (k : Int) := by omega
      have hkn : (k : Int) < (n : Int) := by omega
      have hAL := (Below.refl wr.heap.size wr).alloc (Nat.le_refl _) (.cells #[.int .i64 (v.t : Int), .int .i64 (v.w : Int), .int .u64 (v.n : Int)] 185)
      have HS2 := Lib.hid (HSR.out.fresh hAL)
      have HW2 := Lib.hid (HWR.out.alloc (.cells #[.int .i64 (v.t : Int), .int .i64 (v.w : Int), .int .u64 (v.n : Int)] 185))
      have HO2 := Lib.hid (show newO o' wr.heap.size 0 g = 0 by rw [newO_old HWR.out.lt]; exact HOR.out)
      have HT1 := Lib.hid (HTR.out.trans (To.fresh _ hAL o' 0))
      have x0 : (wr.alloc (.cells #[.int .i64 (v.t : Int), .int .i64 (v.w : Int), .int .u64 (v.n : Int)] 185)).cell? ⟨g, 0, none⟩ = some (.pointer (some ⟨b, 0, none⟩)) := HW2.out.cell 0
      have x1 : (wr.alloc (.cells #[.int .i64 (v.t : Int), .int .i64 (v.w : Int), .int .u64 (v.n : Int)] 185)).cell? ⟨g, 1, none⟩ = some (.int .i64 (y : Int)) := HW2.out.cell 1
      clear hvk hAL
      go_wp2_with fail
      go_at_call 251
      refine (element_spec b y v (elemsB y cc (vs.take k)) _ _ HS2.out.m HYW.out HEV.out HELB.out).mono ?_
      rintro e w9 ⟨rfl, o9, hB, hT⟩
      have hgl := HW2.out.lt
      replace HW2 := Lib.hid (HW2.out.to_ hT (by rw [HO2.out]; omega))
      replace HO2 := Lib.hid (show o9 g = 0 by rw [hT.ow _ hgl]; exact HO2.out)
      replace HS2 := Lib.hid (HS2.out.to_ hT hB)
      replace HT1 := Lib.hid (HT1.out.trans hT)
      clear hB hT hgl
      rw [HEL.out, ← HT.out] at HS2
      clear x0 x1 h0 h1 h2
      go_wp2_with fail
      go_roundw
      case rel => exact ⟨k + 1, by omega, by go_num, o9, HS2.out, HW2.out, HO2.out, HT1.out⟩
      case measure => simp [intOf]; omega
    · have hd1 : decide ((k : Int) < (n : Int)) = false := decide_eq_false (by omega)
      have hd2 : decide (k < n) = false := decide_eq_false (by omega)
      have HE2 := Lib.hid (show vs.take k = vs from List.take_of_length_le (by have := HVL.out; omega))
      rw [HE2.out] at HSR
      go_wp2_with fail
      go_loopw [78] (fun u wr => ∃ j : Nat, j ≤ n ∧ u = .int .i64 j ∧ ∃ o', MpS b b6 b4 n A vs kv (elemsB y cc vs ++ (vs.take j).map (bTag y)) wr o' ∧ Blk wr g 304 #[.pointer (some ⟨b, 0, none⟩), .int .i64 (y : Int)] ∧ o' g = 0 ∧ To (fun i => i = 1) w o wr o') (fun u _ => n - (intOf u).toNat)
      case atStart => exact ⟨0, Nat.zero_le _, rfl, o', by rw [List.take_zero, List.map_nil, List.append_nil]; exact HSR.out, HWR.out, HOR.out, HTR.out⟩
      case round =>
        clear HSR HWR HOR HTR hd1 hd2 hlt
        obtain ⟨j, hj, rfl, o5, hs, hw, hog, ht⟩ := hrel
        have HSR := Lib.hid hs
        have HWR := Lib.hid hw
        have HOR := Lib.hid hog
        have HTR := Lib.hid ht
        clear hs hw hog ht
        by_cases hjt : j < n
        · obtain ⟨g1, off, v, hA, hvk, h0, h1, h2⟩ := isv_bv HSR.out.v hjt
          subst hA
          have HTK := Lib.hid (show elemsB y cc vs ++ (vs.take (j + 1)).map (bTag y) = (elemsB y cc vs ++ (vs.take j).map (bTag y)) ++ [bTag y v] by
            obtain ⟨q1, q2⟩ := List.getElem?_eq_some_iff.1 hvk
            rw [List.take_succ_eq_append_getElem q1, q2, List.map_append, ← List.append_assoc]; rfl)
          have HVM := Lib.hid (List.mem_of_getElem? hvk)
          have HTB := Lib.hid (show (elemsB y cc vs ++ (vs.take j).map (bTag y)).length + 1 ≤ 1048576 by
            rw [List.length_append, List.length_map, List.length_take, elemsB_len2, HVL.out, HQ.out]
            have h3 := HQ2.out
            have h4 : n * y ≤ n * 8 := Nat.mul_le_mul_left n hy8.2
            omega)
          have hk0 : (0 : Int) ≤ (j : Int) := by omega
          have hkn : (j : Int) < (n : Int) := by omega
          have hAL := (Below.refl wr.heap.size wr).alloc (Nat.le_refl _) (.cells #[.int .i64 (v.t : Int), .int .i64 (v.w : Int), .int .u64 (v.n : Int)] 185)
          have HS2 := Lib.hid (HSR.out.fresh hAL)
          have HW2 := Lib.hid (HWR.out.alloc (.cells #[.int .i64 (v.t : Int), .int .i64 (v.w : Int), .int .u64 (v.n : Int)] 185))
          have HO2 := Lib.hid (show newO o5 wr.heap.size 0 g = 0 by rw [newO_old HWR.out.lt]; exact HOR.out)
          have HT1 := Lib.hid (HTR.out.trans (To.fresh _ hAL o5 0))
          have x0 : (wr.alloc (.cells #[.int .i64 (v.t : Int), .int .i64 (v.w : Int), .int .u64 (v.n : Int)] 185)).cell? ⟨g, 0, none⟩ = some (.pointer (some ⟨b, 0, none⟩)) := HW2.out.cell 0
          have x1 : (wr.alloc (.cells #[.int .i64 (v.t : Int), .int .i64 (v.w : Int), .int .u64 (v.n : Int)] 185)).cell? ⟨g, 1, none⟩ = some (.int .i64 (y : Int)) := HW2.out.cell 1
          clear hvk hAL
          go_wp2_with fail
          go_at_call 252
          refine (mtag_spec b y v _ _ _ HS2.out.m HYW.out (HOK.out.legal v HVM.out) (HOK.out.own v HVM.out) HTB.out).mono ?_
          rintro e w9 ⟨rfl, o9, hB, hT⟩
          have hgl := HW2.out.lt
          replace HW2 := Lib.hid (HW2.out.to_ hT (by rw [HO2.out]; omega))
          replace HO2 := Lib.hid (show o9 g = 0 by rw [hT.ow _ hgl]; exact HO2.out)
          replace HS2 := Lib.hid (HS2.out.to_ hT hB)
          replace HT1 := Lib.hid (HT1.out.trans hT)
          clear hB hT hgl
          rw [← HTK.out] at HS2
          clear x0 x1 h0 h1 h2
          go_wp2_with fail
          go_roundw
          case rel => exact ⟨j + 1, by omega, by go_num, o9, HS2.out, HW2.out, HO2.out, HT1.out⟩
          case measure => simp [intOf]; omega
        · have hd1 : decide ((j : Int) < (n : Int)) = false := decide_eq_false (by omega)
          have hd2 : decide (j < n) = false := decide_eq_false (by omega)
          have HE3 := Lib.hid (show vs.take j = vs from List.take_of_length_le (by have := HVL.out; omega))
          rw [HE3.out] at HSR
          have HX := Lib.hid (show mapB kv vs l = (elemsB y cc vs ++ vs.map (bTag y), ⟨9, y, q⟩) by
            unfold mapB
            simp only [HYY.out, HVL.out, HCC.out, HQ.out])
          have hqw : IntKind.u64.wrap (q : Int) = (q : Int) := u64_in _ (by have := HQ2.out; omega)
          have x0 : wr.cell? ⟨g, 0, none⟩ = some (.pointer (some ⟨b, 0, none⟩)) := HWR.out.cell 0
          have r0 : wr.cell? ⟨b6, 0, none⟩ = some (.int .i64 0) := HSR.out.r.cell 0
          have r1 : wr.cell? ⟨b6, 1, none⟩ = some (.int .i64 0) := HSR.out.r.cell 1
          have r2 : wr.cell? ⟨b6, 2, none⟩ = some (.int .u64 0) := HSR.out.r.cell 2
          have f0 := HSR.out.r.frozen 0
          have f1 := HSR.out.r.frozen 1
          have f2 := HSR.out.r.frozen 2
          go_wp2_with (go_at_call 201; refine (berr_is HSR.out.m).mono ?_; rintro e w' ⟨rfl, rfl⟩)
          have hRF := ((HSR.out.r.set_ 0 (.int .i64 9)).set_ 1 (.int .i64 (y : Int))).set_ 2 (.int .u64 (q : Int))
          have hMF := buf_setn (p := ⟨b6, 2, none⟩) (buf_setn (p := ⟨b6, 1, none⟩) (buf_setn (p := ⟨b6, 0, none⟩) HSR.out.m HSR.out.or_ (.int .i64 9)) HSR.out.or_ (.int .i64 (y : Int))) HSR.out.or_ (.int .u64 (q : Int))
          have hTF := to_setn (p := ⟨b6, 2, none⟩) (to_setn (p := ⟨b6, 1, none⟩) (to_setn (p := ⟨b6, 0, none⟩) HTR.out HB6.out (.int .i64 9)) HB6.out (.int .i64 (y : Int))) HB6.out (.int .u64 (q : Int))
          clear r0 r1 r2 f0 f1 f2 x0
          generalize ((wr.setCell ⟨b6, 0, none⟩ (.int .i64 9)).setCell ⟨b6, 1, none⟩ (.int .i64 (y : Int))).setCell ⟨b6, 2, none⟩ (.int .u64 (q : Int)) = wF at hRF hMF hTF ⊢
          have r0 : wF.cell? ⟨b6, 0, none⟩ = some (.int .i64 9) := hRF.cell 0
          have r1 : wF.cell? ⟨b6, 1, none⟩ = some (.int .i64 (y : Int)) := hRF.cell 1
          have r2 : wF.cell? ⟨b6, 2, none⟩ = some (.int .u64 (q : Int)) := hRF.cell 2
          refine bodyPost_ret (v := .tuple #[.agg #[.int .i64 9, .int .i64 (y : Int), .int .u64 (q : Int)], .int .i64 0]) (by simp [results, Tryz.results226, go_sem, r0, r1, r2]) rfl ?_
          rw [HX.out]
          exact ⟨rfl, o5, hMF, hTF⟩
set_option maxRecDepth 100000 in
set_option maxHeartbeats 1000000 in
theorem mkeys_spec (b n c : Nat) (A : Option Addr) (vs : List Bv) (l : List UInt8) (w : World) (o : Nat → Nat) (h : Buf w o b l) (hv : IsV w A n (vs.map vv)) (ho : ∀ ad, A = some ad → ad.block < w.heap.size ∧ o ad.block ≠ 1) (hok : VecOk vs l) (hel : ∀ v ∈ vs, v.t = 4) :
    Calls Tryz.prog 224 #[.pointer (some ⟨b, 0, none⟩), .slice A n c] w (VPutW w o b (bVec 14 true false vs l)) := by
  have hB0 := (Below.refl w.heap.size w).alloc (Nat.le_refl _) (.cells #[.int .i64 0, .int .i64 0, .int .u64 0] 185)
  have HP := Lib.hid (vput_t0 b 4 n c A vs l _ _ (h.fresh hB0 0) (hv.pure hB0) (fun ad e => ⟨by have h1 := (ho ad e).1; have h2 := hB0.size; omega, by rw [newO_old (ho ad e).1]; exact (ho ad e).2⟩) hok (.inl ⟨rfl, .inr (.inr (.inl rfl))⟩) hel)
  have HR0 := Lib.hid (Blk.new w 185 #[.int .i64 0, .int .i64 0, .int .u64 0])
  have HT0 := Lib.hid (To.fresh (fun i => i = 1) hB0 o 0)
  have HO0 := Lib.hid (show newO o w.heap.size 0 w.heap.size = 0 from newO_new (Nat.le_refl _))
  obtain ⟨x, hx⟩ : ∃ x, bVec (vecTy 4 0) true false vs l = x := ⟨_, rfl⟩
  have HXX := Lib.hid (show bVec 14 true false vs l = x from hx)
  rw [hx] at HP
  obtain ⟨l', t', y', q'⟩ := x
  clear hB0 h hv ho hok hel hx
  go_enter Tryz.func224, Tryz.ntmps224
  go_wp2_with fail
  go_at_call 213
  generalize w.alloc (.cells #[.int .i64 0, .int .i64 0, .int .u64 0] 185) = w1 at HP HR0 HT0 ⊢
  generalize newO o w.heap.size 0 = o1 at HP HT0 HO0
  have HBG := Lib.hid (show w.heap.size ≤ w.heap.size from Nat.le_refl _)
  refine HP.out.mono ?_
  rintro e w2 ⟨rfl, o2, hB, hT⟩
  have HB2 := Lib.hid hB
  have HR2 := Lib.hid (HR0.out.to_ hT (by rw [HO0.out]; omega))
  have HO2 := Lib.hid (show o2 w.heap.size = 0 by rw [hT.ow _ HR0.out.lt]; exact HO0.out)
  have HT2 := Lib.hid (HT0.out.trans hT)
  have r0 : w2.cell? ⟨w.heap.size, 0, none⟩ = some (.int .i64 0) := HR2.out.cell 0
  have r1 : w2.cell? ⟨w.heap.size, 1, none⟩ = some (.int .i64 0) := HR2.out.cell 1
  have r2 : w2.cell? ⟨w.heap.size, 2, none⟩ = some (.int .u64 0) := HR2.out.cell 2
  have f0 := HR2.out.frozen 0
  have f1 := HR2.out.frozen 1
  have f2 := HR2.out.frozen 2
  clear hB hT
  go_wp2_with fail
  have hRF := ((HR2.out.set_ 0 (.int .i64 (t' : Int))).set_ 1 (.int .i64 (y' : Int))).set_ 2 (.int .u64 (q' : Int))
  have hMF := buf_setn (p := ⟨w.heap.size, 2, none⟩) (buf_setn (p := ⟨w.heap.size, 1, none⟩) (buf_setn (p := ⟨w.heap.size, 0, none⟩) HB2.out HO2.out (.int .i64 (t' : Int))) HO2.out (.int .i64 (y' : Int))) HO2.out (.int .u64 (q' : Int))
  have hTF := to_setn (p := ⟨w.heap.size, 2, none⟩) (to_setn (p := ⟨w.heap.size, 1, none⟩) (to_setn (p := ⟨w.heap.size, 0, none⟩) HT2.out HBG.out (.int .i64 (t' : Int))) HBG.out (.int .i64 (y' : Int))) HBG.out (.int .u64 (q' : Int))
  clear r0 r1 r2 f0 f1 f2
  generalize ((w2.setCell ⟨w.heap.size, 0, none⟩ (.int .i64 (t' : Int))).setCell ⟨w.heap.size, 1, none⟩ (.int .i64 (y' : Int))).setCell ⟨w.heap.size, 2, none⟩ (.int .u64 (q' : Int)) = wF at hRF hMF hTF ⊢
  have r0 : wF.cell? ⟨w.heap.size, 0, none⟩ = some (.int .i64 (t' : Int)) := hRF.cell 0
  have r1 : wF.cell? ⟨w.heap.size, 1, none⟩ = some (.int .i64 (y' : Int)) := hRF.cell 1
  have r2 : wF.cell? ⟨w.heap.size, 2, none⟩ = some (.int .u64 (q' : Int)) := hRF.cell 2
  refine bodyPost_ret (v := .tuple #[.agg #[.int .i64 (t' : Int), .int .i64 (y' : Int), .int .u64 (q' : Int)], .int .i64 0]) (by simp [results, Tryz.results224, go_sem, r0, r1, r2]) rfl ?_
  rw [HXX.out]
  exact ⟨rfl, o2, hMF, hTF⟩
end Go.Proofs.YtfoifdoaleaekaaGreat

namespace Go.Proofs.YtfoifdoaleaekaaGreat
open Go.RowKit Go.Acc
theorem kless_spec (s k : List UInt8) (r : Bool) (w : World) (hr : Op.bytesLess s k = r) : Calls Tryz.prog 67 #[.string ⟨s.toArray⟩, .string ⟨k.toArray⟩] w fun e w' => e = .returned (.bool r) ∧ w = w' := by
  have hr' : Op.bytesLess (⟨s.toArray⟩ : ByteArray).data.toList (⟨k.toArray⟩ : ByteArray).data.toList = r := hr
  clear hr
  go_enter Tryz.func67, Tryz.ntmps67
  go_wp2
  go_ret
  exact ⟨by simp, rfl⟩
theorem kl_trans : ∀ (x y z : List UInt8), Op.bytesLess x y = true → Op.bytesLess y z = true → Op.bytesLess x z = true
  | [], [], _, h, _ => by cases h
  | [], _ :: _, [], _, h => by cases h
  | [], _ :: _, _ :: _, _, _ => rfl
  | _ :: _, [], _, h, _ => by cases h
  | _ :: _, _ :: _, [], _, h => by cases h
  | a :: x, b :: y, c :: z, h1, h2 => by
    have g1 : (decide (a < b) || (a == b && Op.bytesLess x y)) = true := h1
    have g2 : (decide (b < c) || (b == c && Op.bytesLess y z)) = true := h2
    show (decide (a < c) || (a == c && Op.bytesLess x z)) = true
    rw [Bool.or_eq_true, Bool.and_eq_true, decide_eq_true_eq, beq_iff_eq] at g1 g2 ⊢
    rcases g1 with k1 | ⟨e1, k1⟩
    · rcases g2 with k2 | ⟨e2, k2⟩
      · exact .inl (UInt8.lt_trans k1 k2)
      · exact .inl (by rw [← e2]; exact k1)
    · rcases g2 with k2 | ⟨e2, k2⟩
      · exact .inl (by rw [e1]; exact k2)
      · exact .inr ⟨e1.trans e2, kl_trans x y z k1 k2⟩
structure PlaceI (ks : List (List UInt8)) (k : List UInt8) (i : Nat) : Prop where
  le : i ≤ ks.length
  lo : ∀ j x, j < i → ks[j]? = some x → Op.bytesLess x k = true
  hi : ∀ j x, i ≤ j → ks[j]? = some x → Op.bytesLess x k = false
set_option maxRecDepth 100000 in
set_option maxHeartbeats 1000000 in
theorem pplace_spec (p n c : Nat) (A : Option Addr) (ks : List (List UInt8)) (k : List UInt8) (w : World) (hs : w.cell? ⟨p, 0, none⟩ = some (.slice A n c)) (h : IsS w A n ks) (hn : n ≤ 1048576) (hsort : ks.Pairwise (fun x y => Op.bytesLess x y = true)) :
    Calls Tryz.prog 247 #[.pointer (some ⟨p, 0, none⟩), .string ⟨k.toArray⟩] w fun e w' => ∃ i, PlaceI ks k i ∧ e = .returned (.tuple #[.int .i64 (i : Int), .bool (decide (ks[i]? = some k))]) ∧ Below w.heap.size w w' := by
  have H := Lib.hid h
  have hlen : ks.length = n := h.1
  have HS := Lib.hid hsort
  clear h hsort
  go_enter Tryz.func247, Tryz.ntmps247
  go_wp2_with fail
  go_quiet (fail)
  go_wp2_with fail
  go_loopw [6, 7] (fun u v wr => ∃ lo hi : Nat, u = .int .i64 lo ∧ v = .int .i64 hi ∧ lo ≤ hi ∧ hi ≤ n ∧ (∀ j x, j < lo → ks[j]? = some x → Op.bytesLess x k = true) ∧ (∀ j x, hi ≤ j → ks[j]? = some x → Op.bytesLess x k = false) ∧ Below w.heap.size w wr) (fun u v _ => (intOf v).toNat - (intOf u).toNat)
  case atStart => exact ⟨0, n, rfl, rfl, Nat.zero_le _, Nat.le_refl _, fun j x h => by omega, fun j x h h' => absurd (List.getElem?_eq_some_iff.1 h').1 (by omega), below_drewN (Below.refl _ _) _⟩
  case round =>
    obtain ⟨lo, hi, rfl, rfl, h1, h2, h3, h4, hb⟩ := hrel
    have H3 := Lib.hid h3
    have H4 := Lib.hid h4
    have HB := Lib.hid hb
    have HI := Lib.hid (H.out.pure hb)
    have hs' := cell_pure hb hs
    clear h3 h4 hb hs
    by_cases hlt : lo < hi
    · obtain ⟨mid, hmid⟩ : ∃ mid, lo + (hi - lo) / 2 = mid := ⟨_, rfl⟩
      have hm1 : lo ≤ mid := by omega
      have hm2 : mid < hi := by omega
      have ht : ((hi : Int) - (lo : Int)).tdiv 2 = ((hi - lo) / 2 : Nat) := by
        rw [show (hi : Int) - (lo : Int) = ((hi - lo : Nat) : Int) by omega, Int.tdiv_eq_ediv_of_nonneg (by omega)]; rfl
      obtain ⟨q, hq⟩ : ∃ q, (hi - lo) / 2 = q := ⟨_, rfl⟩
      rw [hq] at ht hmid
      have hq2 : q ≤ 1048576 := by omega
      have e1 : (lo : Int) + (q : Int) = (mid : Int) := by omega
      obtain ⟨g, off, rfl, hk', hc⟩ := iss_at HI.out (k := mid) (by omega)
      obtain ⟨x, hx⟩ : ∃ x, ks[mid] = x := ⟨_, rfl⟩
      rw [hx] at hc
      have hmx : ks[mid]? = some x := by rw [List.getElem?_eq_getElem hk', hx]
      have HMX := Lib.hid hmx
      obtain ⟨r, hr⟩ : ∃ r, Op.bytesLess x k = r := ⟨_, rfl⟩
      have HR := Lib.hid hr
      have hmn : (mid : Int) < (n : Int) := by omega
      have hm0 : (0 : Int) ≤ (mid : Int) := by omega
      have HSR := Lib.hid (show ∀ i j a b, i < j → ks[i]? = some a → ks[j]? = some b → Op.bytesLess a b = true from by
        intro i j a b hij ha hb
        obtain ⟨ha1, ha2⟩ := List.getElem?_eq_some_iff.1 ha
        obtain ⟨hb1, hb2⟩ := List.getElem?_eq_some_iff.1 hb
        rw [← ha2, ← hb2]
        exact List.pairwise_iff_getElem.1 HS.out i j ha1 hb1 hij)
      have hmlt := Lib.hid (And.intro hm1 hm2)
      clear hx hmx hr hq hmid hk' hm1 hm2
      cases r with
      | true =>
        have e2 : IntKind.i64.wrap ((mid : Int) + 1) = (mid : Int) + 1 := IntWalk.i64_in _ (by omega)
        go_wp2_with (go_at_call 67; (refine (kless_spec x k true _ HR.out).mono ?_); rintro e w' ⟨rfl, rfl⟩)
        go_roundw
        case rel =>
          refine ⟨mid + 1, hi, by go_num, rfl, by have := hmlt.out; omega, h2, fun j y hj hy => ?_, H4.out, HB.out⟩
          rcases Nat.lt_or_ge j mid with h | h
          · exact kl_trans y x k (HSR.out j mid y x h hy HMX.out) HR.out
          · obtain rfl : j = mid := by omega
            rw [HMX.out] at hy
            injection hy with hy
            rw [← hy]
            exact HR.out
        case measure => have := hmlt.out; simp [intOf]; omega
      | false =>
        go_wp2_with (go_at_call 67; (refine (kless_spec x k false _ HR.out).mono ?_); rintro e w' ⟨rfl, rfl⟩)
        go_roundw
        case rel =>
          refine ⟨lo, mid, rfl, rfl, hmlt.out.1, by have := hmlt.out; omega, H3.out, fun j y hj hy => ?_, HB.out⟩
          rcases Nat.lt_or_ge mid j with h | h
          · cases hyk : Op.bytesLess y k with
            | false => rfl
            | true => exact absurd (kl_trans x y k (HSR.out mid j x y h HMX.out hy) hyk) (by rw [HR.out]; decide)
          · obtain rfl : j = mid := by omega
            rw [HMX.out] at hy
            injection hy with hy
            rw [← hy]
            exact HR.out
        case measure => have := hmlt.out; simp [intOf]; omega
    · have hd : decide ((lo : Int) < (hi : Int)) = false := decide_eq_false (by omega)
      have hd2 : decide (lo < hi) = false := decide_eq_false (by omega)
      obtain rfl : lo = hi := by omega
      have HPI := Lib.hid (PlaceI.mk (by omega) H3.out H4.out : PlaceI ks k lo)
      clear H3 H4 h1 hlt
      by_cases hln : lo < n
      · obtain ⟨g, off, rfl, hk', hc⟩ := iss_at HI.out (k := lo) hln
        obtain ⟨x, hx⟩ : ∃ x, ks[lo] = x := ⟨_, rfl⟩
        rw [hx] at hc
        obtain ⟨r, hr⟩ : ∃ r, (x == k) = r := ⟨_, rfl⟩
        have HD := Lib.hid (show decide (ks[lo]? = some k) = r by
          rw [List.getElem?_eq_getElem hk', hx, ← hr]
          rw [Bool.eq_iff_iff]
          simp)
        have hd3 : decide ((lo : Int) < (n : Int)) = true := decide_eq_true (by omega)
        have hmn : (lo : Int) < (n : Int) := by omega
        have hm0 : (0 : Int) ≤ (lo : Int) := by omega
        clear hx hk'
        cases r with
        | true =>
          go_wp2_with fail
          go_quiet (fail)
          go_wp2_with fail
          go_ret2
          exact ⟨lo, HPI.out, by rw [HD.out]; rfl, below_drewN HB.out _⟩
        | false =>
          go_wp2_with fail
          go_quiet (fail)
          go_wp2_with fail
          go_ret2
          exact ⟨lo, HPI.out, by rw [HD.out]; rfl, below_drewN HB.out _⟩
      · have HD := Lib.hid (show decide (ks[lo]? = some k) = false by
          rw [List.getElem?_eq_none (by omega)]; simp)
        have hd3 : decide ((lo : Int) < (n : Int)) = false := decide_eq_false (by omega)
        have hd4 : decide (lo < n) = false := decide_eq_false (by omega)
        go_wp2_with fail
        go_quiet (fail)
        go_wp2_with fail
        go_ret2
        exact ⟨lo, HPI.out, by rw [HD.out]; rfl, below_drewN HB.out _⟩
end Go.Proofs.YtfoifdoaleaekaaGreat
