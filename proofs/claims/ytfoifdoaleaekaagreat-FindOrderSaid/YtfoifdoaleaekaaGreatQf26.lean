/-
  Package vec: Put.
  Package vec: Put, of a typed vector.
-/
import Derived.Test.YtfoifdoaleaekaaGreatQf25
import Derived.StillTailTactics
namespace Go.Proofs.YtfoifdoaleaekaaGreat
open Go.RowKit Go.Acc
structure VecOk (vs : List Bv) (l : List UInt8) : Prop where
  legal : ∀ v ∈ vs, legalT (v.t : Int) = true
  own : ∀ v ∈ vs, isW (v.w : Int) = true
  fit : ∀ v ∈ vs, Fit l.length v
  len : l.length + 40 + 9 * vs.length ≤ 1048576
structure VpS (b b8 b11 n : Nat) (A : Option Addr) (vs : List Bv) (sh : Array Value) (l : List UInt8) (w : World) (o : Nat → Nat) : Prop where
  m : Buf w o b l
  r : Blk w b8 185 #[.int .i64 0, .int .i64 0, .int .u64 0]
  or_ : o b8 = 0
  s : Blk w b11 294 sh
  os_ : o b11 = 0
  v : IsV w A n (vs.map vv)
  ov : ∀ ad, A = some ad → ad.block < w.heap.size ∧ o ad.block ≠ 1
section
variable {b b8 b11 n : Nat} {A : Option Addr} {vs : List Bv} {sh : Array Value} {l l' : List UInt8} {w w' : World} {o o' : Nat → Nat}
theorem VpS.to_ (h : VpS b b8 b11 n A vs sh l w o) (ht : To (fun i => i = 1) w o w' o') (hb : Buf w' o' b l') : VpS b b8 b11 n A vs sh l' w' o' :=
  ⟨hb, h.r.to_ ht (by rw [h.or_]; omega), by rw [ht.ow _ h.r.lt]; exact h.or_, h.s.to_ ht (by rw [h.os_]; omega), by rw [ht.ow _ h.s.lt]; exact h.os_,
    h.v.fr ht.fr (fun ad e => (h.ov ad e).2), fun ad e => ⟨Nat.lt_of_lt_of_le (h.ov ad e).1 ht.size, by rw [ht.ow _ (h.ov ad e).1]; exact (h.ov ad e).2⟩⟩
theorem VpS.pure (h : VpS b b8 b11 n A vs sh l w o) (hb : Below w.heap.size w w') : VpS b b8 b11 n A vs sh l w' o := h.to_ (To.pure _ hb o) (h.m.pure hb)
theorem VpS.drew (h : VpS b b8 b11 n A vs sh l w o) : VpS b b8 b11 n A vs sh l w.drew o := h.pure (Below.refl _ _).drew
end
def VPutW (w : World) (o : Nat → Nat) (b : Nat) (x : List UInt8 × Bv) (e : Ending) (w' : World) : Prop :=
  e = .returned (.tuple #[.agg #[.int .i64 (x.2.t : Int), .int .i64 (x.2.w : Int), .int .u64 (x.2.n : Int)], .int .i64 0]) ∧ ∃ o', Buf w' o' b x.1 ∧ To (fun i => i = 1) w o w' o'
theorem all_1 (vs : List Bv) (a n c : Nat) (A : Option Addr) (w : World) (r : Nat) (hv : IsV w A n (vs.map vv)) (ha : a ≤ 1048576) (hn : n ≤ 1000000) (hr : fitAll a 1 none vs = r) :
    Calls Tryz.prog 243 #[.int .i64 (a : Int), .int .i64 1, .agg #[.int .i64 0, .int .i64 0, .int .u64 0], .slice A n c] w fun e w' => e = .returned (.int .i64 (r : Int)) ∧ Below w.heap.size w w' := by
  have h := all_spec ⟨0, 0, 0⟩ vs a 1 n c A w hv ha hn (.inr (.inl rfl))
  rw [show koOf 1 ⟨0, 0, 0⟩ = none from rfl, hr] at h
  exact h
theorem elems_fit {vs : List Bv} {l : List UInt8} {k y : Nat} (hk : k ≤ 3) (hy : isW (y : Int) = true) (hf : fitsL l.length y k vs = true) (hl : l.length + 40 + 9 * vs.length ≤ 1048576) {c : List UInt8} (hc : c.length = (alignB y l).length + k * y) :
    ∀ (i : Nat) v, vs[i]? = some v → inl v.t = false → v.n ≤ c.length + i * y ∧ c.length + i * y - v.n < 2 ^ (8 * y) := by
  intro i v hv hi
  obtain ⟨h1, h2⟩ := fits_off hi (fitsL_at vs k i v hf hv)
  obtain ⟨a1, a2, a3⟩ := align_len hy l
  have hi2 : i < vs.length := (List.getElem?_eq_some_iff.1 hv).1
  have e : c.length + i * y = upN l.length y + (k + i) * y := by rw [hc, a1, Nat.add_mul]; omega
  have hy8 : y ≤ 8 := by have := w_cases hy; omega
  have h8 := alignB_len l hy8
  have hb : (k + i) * y ≤ (3 + vs.length) * 8 := Nat.mul_le_mul (by omega) hy8
  rw [e]
  exact ⟨by omega, bWidth_lt hy (by omega) h2⟩
theorem to_setn {I : Nat → Prop} {w w' : World} {o o' : Nat → Nat} (h : To I w o w' o') {p : Addr} (hp : w.heap.size ≤ p.block) (v : Value) : To I w o (w'.setCell p v) o' :=
  ⟨h.fr.setCell (fun hlt => absurd hlt (by omega)) v, h.ow⟩
theorem buf_setn {w : World} {o : Nat → Nat} {b : Nat} {l : List UInt8} (h : Buf w o b l) {p : Addr} (hp : o p.block = 0) (v : Value) : Buf (w.setCell p v) o b l :=
  h.to_ (To.of_fr0 (I := fun i => i = 0) (Fr.setCell (S := fun k => k = p.block) (Fr.refl _ w) (fun _ => rfl) v) (by rintro k _ rfl; exact hp)) (by decide)
theorem fitAll_facts {vs : List Bv} {l : List UInt8} {k y : Nat} (hok : VecOk vs l) (hy : fitAll l.length k none vs = y) : isW (y : Int) = true ∧ fitsL l.length y k vs = true ∧ (k = 0 ∨ bWidth vs.length ≤ y) := by
  have h1 := fitAll8 (a := l.length) (ahead := k) (k := none) (vs := vs) (fun x h => by cases h) hok.fit
  obtain ⟨h2, _, h3⟩ := fitAll_is (a := l.length) (ahead := k) (k := none) (vs := vs) (fun x h => by cases h) hok.fit
  rw [hy] at h1 h2 h3
  exact ⟨h1, h3, h2⟩
end Go.Proofs.YtfoifdoaleaekaaGreat

namespace Go.Proofs.YtfoifdoaleaekaaGreat
open Go.RowKit Go.Acc
def ShW2 (w : World) (e T : Nat) (z : Bool) (x : Ending) (w' : World) : Prop :=
  ∃ g, x = .returned (.tuple #[.agg #[.int .i64 (T : Int), .bool z, .func (.func 263) #[] #[.pointer (some ⟨g, 0, none⟩)], .func (.func 264) #[] #[]], .int .i64 0]) ∧ Blk w' g 3 #[.int .i64 (e : Int)] ∧ w.heap.size ≤ g ∧ Below w.heap.size w w'
theorem shaped_t0 (e T : Nat) (w : World) (h : TyOk e 0) (ht : vecTy e 0 = T) : Calls Tryz.prog 242 #[.int .i64 (e : Int), .int .i64 0] w (ShW2 w e T true) := by
  have := shaped_ty e 0 w h
  unfold ShW at this
  rw [ht] at this
  exact this
set_option maxRecDepth 100000 in
set_option maxHeartbeats 2000000 in
theorem vput_t0 (b e n c : Nat) (A : Option Addr) (vs : List Bv) (l : List UInt8) (w : World) (o : Nat → Nat) (h : Buf w o b l) (hv : IsV w A n (vs.map vv)) (ho : ∀ ad, A = some ad → ad.block < w.heap.size ∧ o ad.block ≠ 1) (hok : VecOk vs l) (hty : TyOk e 0) (hel : ∀ v ∈ vs, v.t = e) :
    Calls Tryz.prog 213 #[.pointer (some ⟨b, 0, none⟩), .int .i64 (e : Int), .int .i64 0, .slice A n c] w (VPutW w o b (bVec (vecTy e 0) true false vs l)) := by
  obtain ⟨T, hT⟩ : ∃ T, vecTy e 0 = T := ⟨_, rfl⟩
  rw [hT]
  have HTT := Lib.hid hT
  have HTY := Lib.hid hty
  have HEE := Lib.hid hel
  clear hT hty hel
  obtain ⟨y, hyy⟩ : ∃ y, fitAll l.length 1 none vs = y := ⟨_, rfl⟩
  obtain ⟨hyw, hyf, hyb⟩ := fitAll_facts hok hyy
  have HYY := Lib.hid hyy
  have HYW := Lib.hid hyw
  have HYF := Lib.hid hyf
  have HYB := Lib.hid hyb
  have hy8 : 1 ≤ y ∧ y ≤ 8 := by have := w_cases hyw; omega
  have hyne : ((y : Int) == 0) = false := by rw [beq_eq_false_iff_ne]; omega
  have HLEN := Lib.hid hok.len
  obtain ⟨a, ha⟩ : ∃ a, l.length = a := ⟨_, rfl⟩
  have HA := Lib.hid ha
  have ha2 : a ≤ 1048576 := by have := hok.len; omega
  have HA2 := Lib.hid ha2
  clear hyy hyw hyf hyb ha
  have HBF := Lib.hid h
  have HVV := Lib.hid hv
  have HOV := Lib.hid ho
  have HOK := Lib.hid hok
  have HVL := Lib.hid (isv_len hv)
  have hB0 := (Below.refl w.heap.size w).alloc (Nat.le_refl _) (.cells #[.int .i64 0, .int .i64 0, .int .u64 0] 185)
  have HB0 := Lib.hid hB0
  have HM0 := Lib.hid (h.fresh hB0 0)
  have HR0 := Lib.hid (Blk.new w 185 #[.int .i64 0, .int .i64 0, .int .u64 0])
  have hn1 : n ≤ 1000000 := by
    have h1 := hok.len
    have h2 := isv_len hv
    omega
  clear h hv ho hok hB0
  go_enter Tryz.func213, Tryz.ntmps213
  go_wp2_with fail
  go_at_call 201
  refine (berr_is HM0.out).mono ?_
  rintro e w' ⟨rfl, rfl⟩
  go_wp2_with fail
  go_at_call 242
  refine (shaped_t0 e T _ HTY.out HTT.out).mono ?_
  rintro x w1 ⟨g, rfl, hg, hge, hb⟩
  have hA1 := (Below.refl w1.heap.size w1).alloc (Nat.le_refl _) (.cells #[.int .i64 (T : Int), .bool true, (.func (.func 263) #[] #[.pointer (some ⟨g, 0, none⟩)]), (.func (.func 264) #[] #[])] 294)
  have HS1 := Lib.hid (show VpS b w.heap.size w1.heap.size n A vs #[.int .i64 (T : Int), .bool true, (.func (.func 263) #[] #[.pointer (some ⟨g, 0, none⟩)]), (.func (.func 264) #[] #[])] l (w1.alloc (.cells #[.int .i64 (T : Int), .bool true, (.func (.func 263) #[] #[.pointer (some ⟨g, 0, none⟩)]), (.func (.func 264) #[] #[])] 294)) (newO (newO o w.heap.size 0) w1.heap.size 0) by
    have hlt := (HR0.out.pure hb).lt
    have hwe : w.heap.size ≤ w1.heap.size := by omega
    refine ⟨(HM0.out.pure hb).fresh hA1 0, (HR0.out.pure hb).alloc _, ?_, Blk.new _ _ _, newO_new (Nat.le_refl _), (HVV.out.pure (pure_below HB0.out hb)).pure hA1, fun ad e => ?_⟩
    · rw [newO_old hlt]; exact newO_new (Nat.le_refl _)
    · have h1 := HOV.out ad e
      rw [newO_old (Nat.lt_of_lt_of_le h1.1 hwe), newO_old h1.1]
      exact ⟨by have := hA1.size; omega, h1.2⟩)
  have HT1 := Lib.hid (show To (fun i => i = 1) w o (w1.alloc (.cells #[.int .i64 (T : Int), .bool true, (.func (.func 263) #[] #[.pointer (some ⟨g, 0, none⟩)]), (.func (.func 264) #[] #[])] 294)) (newO (newO o w.heap.size 0) w1.heap.size 0) from (To.fresh _ HB0.out o 0).trans ((To.pure _ hb _).trans (To.fresh _ hA1 _ 0)))
  have HG := Lib.hid (hg.alloc (.cells #[.int .i64 (T : Int), .bool true, (.func (.func 263) #[] #[.pointer (some ⟨g, 0, none⟩)]), (.func (.func 264) #[] #[])] 294))
  clear hA1 hb hg hge HM0 HR0 HB0 HBF HVV HOV
  go_wp2_with fail
  generalize w1.alloc (.cells #[.int .i64 (T : Int), .bool true, (.func (.func 263) #[] #[.pointer (some ⟨g, 0, none⟩)]), (.func (.func 264) #[] #[])] 294) = w2 at HS1 HT1 HG ⊢
  generalize newO (newO o w.heap.size 0) w1.heap.size 0 = o2 at HS1 HT1
  have HB8 := Lib.hid (show w.heap.size ≤ w.heap.size from Nat.le_refl _)
  obtain ⟨b8, hb8⟩ : ∃ b8, w.heap.size = b8 := ⟨_, rfl⟩
  rw [hb8] at HS1 ⊢
  replace HB8 := Lib.hid (show w.heap.size ≤ b8 from Nat.le_of_eq hb8)
  clear hb8
  generalize w1.heap.size = b11 at HS1 ⊢
  go_loopw [12, 13] (fun u i wr => ∃ k : Nat, k ≤ n ∧ u = .int .i64 0 ∧ i = .int .i64 k ∧ Below w2.heap.size w2 wr) (fun _ i _ => n - (intOf i).toNat)
  case atStart => exact ⟨0, Nat.zero_le _, rfl, rfl, Below.refl _ _⟩
  case round =>
    obtain ⟨k, hk, rfl, rfl, hbr⟩ := hrel
    have HBR := Lib.hid hbr
    have HSR := Lib.hid (HS1.out.pure hbr)
    clear hbr
    by_cases hlt : k < n
    · obtain ⟨g1, off, v, rfl, hvk, h0, h1, h2⟩ := isv_bv HSR.out.v hlt
      have hvm := List.mem_of_getElem? hvk
      have HVM := Lib.hid hvm
      have s2 : wr.cell? ⟨b11, 2, none⟩ = some (.func (.func 263) #[] #[.pointer (some ⟨g, 0, none⟩)]) := HSR.out.s.cell 2
      have hk0 : (0 : Int) ≤ (k : Int) := by omega
      have hkn : (k : Int) < (n : Int) := by omega
      clear hvk hvm
      go_wp2_with fail
      go_region_held3 (fun w' => w'.cell? ⟨b11, 2, none⟩ = some (.func (.func 263) #[] #[.pointer (some ⟨g, 0, none⟩)]) ∧ w'.cell? ⟨g1, off + k * 3, none⟩ = some (.int .i64 (v.t : Int)) ∧ w'.cell? ⟨g1, off + k * 3 + 1, none⟩ = some (.int .i64 (v.w : Int)) ∧ w'.cell? ⟨g1, off + k * 3 + 2, none⟩ = some (.int .u64 (v.n : Int))) (first | with_reducible exact ⟨s2, h0, h1, h2⟩ | with_reducible exact ⟨kdrew s2, kdrew h0, kdrew h1, kdrew h2⟩ | with_reducible exact ⟨t2, t3, t4, t5⟩) (first | (go_at_call 263; (with_reducible refine (shaped1_spec g e v _ (HG.out.pure HBR.out).drew (HEE.out v HVM.out) (HOK.out.legal v HVM.out) (HOK.out.own v HVM.out)).mono ?_); rintro e w5 ⟨rfl, hb5⟩; have t2 := cell_pure hb5 (kdrew s2); have t3 := cell_pure hb5 (kdrew h0); have t4 := cell_pure hb5 (kdrew h1); have t5 := cell_pure hb5 (kdrew h2); have HB5 := Lib.hid (pure_below HBR.out (pure_trans (Below.refl _ _).drew hb5)); clear hb5))
      clear s2 h0 h1 h2
      go_wp2_with fail
      go_roundw
      case rel => exact ⟨k + 1, by omega, rfl, by go_num, HB5.out⟩
      case measure => simp [intOf]; omega
    · have hd1 : decide ((k : Int) < (n : Int)) = false := decide_eq_false (by omega)
      have hd2 : decide (k < n) = false := decide_eq_false (by omega)
      have HB3 := HBR
      have HS3 := HSR
      clear HBR HSR HS1
      replace HT1 := Lib.hid (HT1.out.trans (To.pure _ HB3.out o2))
      clear HB3 hd1 hd2
      have s0 : wr.cell? ⟨b11, 0, none⟩ = some (.int .i64 (T : Int)) := HS3.out.s.cell 0
      have s1 : wr.cell? ⟨b11, 1, none⟩ = some (.bool true) := HS3.out.s.cell 1
      have d1 : decide ((k : Int) < (n : Int)) = false := decide_eq_false (by omega)
      go_wp2_with fail
      go_at_call 129
      refine (blen_is a HS3.out.m HA.out).mono ?_
      rintro e w' ⟨rfl, rfl⟩
      go_wp2_with fail
      go_at_call 243
      refine (all_1 vs a n c A _ y HS3.out.v HA2.out hn1 (by rw [← HA.out]; exact HYY.out)).mono ?_
      rintro e w4 ⟨rfl, hb⟩
      have HS4 := Lib.hid (HS3.out.pure hb)
      replace HT1 := Lib.hid (HT1.out.trans (To.pure _ hb o2))
      clear hb s0 s1 HS3
      have s1 : w4.cell? ⟨b11, 1, none⟩ = some (.bool true) := HS4.out.s.cell 1
      have HAL := Lib.hid (alignB_len l hy8.2)
      go_wp2_with fail
      go_at_call 130
      refine (balign_spec b y l _ o2 HS4.out.m HYW.out (by have := HLEN.out; omega)).mono ?_
      rintro e w5 ⟨rfl, o5, hB, hT⟩
      replace HS4 := Lib.hid (HS4.out.to_ hT hB)
      replace HT1 := Lib.hid (HT1.out.trans hT)
      clear hB hT
      clear s1
      have s1 : w5.cell? ⟨b11, 1, none⟩ = some (.bool true) := HS4.out.s.cell 1
      have hnw : IntKind.u64.wrap (n : Int) = (n : Int) := u64_in _ (by omega)
      have HNV := Lib.hid (show fitsU y n = true from decide_eq_true (.inr (by
        have h1 := HYB.out
        rw [HVL.out] at h1
        exact bWidth_lt HYW.out (by omega) (by omega))))
      go_wp2_with fail
      go_at_call 133
      refine (bnum_spec b y n (alignB y l) _ o5 HS4.out.m HYW.out HNV.out (by omega) (by have h1 := HLEN.out; have h2 := HAL.out; omega)).mono ?_
      rintro e w6 ⟨rfl, o6, hB, hT⟩
      replace HS4 := Lib.hid (HS4.out.to_ hT hB)
      replace HT1 := Lib.hid (HT1.out.trans hT)
      clear hB hT
      clear s1 hnw
      obtain ⟨cc, hcc⟩ : ∃ cc, alignB y l ++ leBytes y n = cc := ⟨_, rfl⟩
      have HCC := Lib.hid hcc
      have HCL := Lib.hid (show cc.length = (alignB y l).length + y by rw [← hcc, List.length_append, leBytes_length])
      rw [hcc] at HS4
      obtain ⟨q, hq⟩ : ∃ q, cc.length = q := ⟨_, rfl⟩
      have HQ := Lib.hid hq
      have HQ2 := Lib.hid (show q + 16 + 9 * n ≤ 1048576 by
        have h1 := HLEN.out; have h2 := HAL.out; have h3 := HCL.out; have h4 := HVL.out; omega)
      clear hcc hq
      go_wp2_with fail
      go_at_call 129
      refine (blen_is q HS4.out.m HQ.out).mono ?_
      rintro e w' ⟨rfl, rfl⟩
      go_wp2_with fail
      go_at_call 244
      refine (elements_spec b y n c A vs cc _ o6 HS4.out.m HS4.out.v (fun ad e => (HS4.out.ov ad e).2) HYW.out (elems_fit (k := 1) (by omega) HYW.out HYF.out HLEN.out (by rw [HCL.out, Nat.one_mul])) ?_ hn1).mono ?_
      · rw [HVL.out, HQ.out]
        have h1 := HQ2.out
        have h2 : n * y ≤ n * 8 := Nat.mul_le_mul_left n hy8.2
        omega
      rintro e w7 ⟨rfl, o7, hB, hT⟩
      replace HS4 := Lib.hid (HS4.out.to_ hT hB)
      replace HT1 := Lib.hid (HT1.out.trans hT)
      clear hB hT
      have s3 : w7.cell? ⟨b11, 3, none⟩ = some (.func (.func 264) #[] #[]) := HS4.out.s.cell 3
      go_wp2_with fail
      go_at_call 264
      refine (shaped2_spec _ _ A n c _).mono ?_
      rintro x w' ⟨rfl, rfl⟩
      clear s3
      have HX := Lib.hid (show bVec T true false vs l = (elemsB y cc vs, ⟨T, y, q⟩) by
        unfold bVec
        simp [HYY.out, HVL.out,HCC.out, HQ.out])
      have hqw : IntKind.u64.wrap (q : Int) = (q : Int) := u64_in _ (by have := HQ2.out; omega)
      have s0 : w7.cell? ⟨b11, 0, none⟩ = some (.int .i64 (T : Int)) := HS4.out.s.cell 0
      have r0 : w7.cell? ⟨b8, 0, none⟩ = some (.int .i64 0) := HS4.out.r.cell 0
      have r1 : w7.cell? ⟨b8, 1, none⟩ = some (.int .i64 0) := HS4.out.r.cell 1
      have r2 : w7.cell? ⟨b8, 2, none⟩ = some (.int .u64 0) := HS4.out.r.cell 2
      have f0 := HS4.out.r.frozen 0
      have f1 := HS4.out.r.frozen 1
      have f2 := HS4.out.r.frozen 2
      go_wp2_with (go_at_call 201; refine (berr_is HS4.out.m).mono ?_; rintro e w' ⟨rfl, rfl⟩)
      have hRF := ((HS4.out.r.set_ 0 (.int .i64 (T : Int))).set_ 1 (.int .i64 (y : Int))).set_ 2 (.int .u64 (q : Int))
      have hMF := buf_setn (p := ⟨b8, 2, none⟩) (buf_setn (p := ⟨b8, 1, none⟩) (buf_setn (p := ⟨b8, 0, none⟩) HS4.out.m HS4.out.or_ (.int .i64 (T : Int))) HS4.out.or_ (.int .i64 (y : Int))) HS4.out.or_ (.int .u64 (q : Int))
      have hTF := to_setn (p := ⟨b8, 2, none⟩) (to_setn (p := ⟨b8, 1, none⟩) (to_setn (p := ⟨b8, 0, none⟩) HT1.out HB8.out (.int .i64 (T : Int))) HB8.out (.int .i64 (y : Int))) HB8.out (.int .u64 (q : Int))
      clear r0 r1 r2 f0 f1 f2 s0
      generalize ((w7.setCell ⟨b8, 0, none⟩ (.int .i64 (T : Int))).setCell ⟨b8, 1, none⟩ (.int .i64 (y : Int))).setCell ⟨b8, 2, none⟩ (.int .u64 (q : Int)) = wF at hRF hMF hTF ⊢
      have r0 : wF.cell? ⟨b8, 0, none⟩ = some (.int .i64 (T : Int)) := hRF.cell 0
      have r1 : wF.cell? ⟨b8, 1, none⟩ = some (.int .i64 (y : Int)) := hRF.cell 1
      have r2 : wF.cell? ⟨b8, 2, none⟩ = some (.int .u64 (q : Int)) := hRF.cell 2
      refine bodyPost_ret (v := .tuple #[.agg #[.int .i64 (T : Int), .int .i64 (y : Int), .int .u64 (q : Int)], .int .i64 0]) (by simp [results, Tryz.results213, go_sem, r0, r1, r2]) rfl ?_
      rw [HX.out]
      exact ⟨rfl, o7, hMF, hTF⟩
end Go.Proofs.YtfoifdoaleaekaaGreat
