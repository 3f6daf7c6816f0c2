/-
  Package cover: vectors and maps.
-/
import Derived.Test.YtejalfjeihlpeaaGreatQ25
namespace Go.Proofs.YtejalfjeihlpeaaGreat
open Go.RowKit Go.Acc
/-- Where a loop over the elements stands. -/
def LiRel (E : CvE) (go : Rq → CvS → CvS × Int) (r : Rq) (N : Nat) (F : CvS × Int) (b : Nat) (w0 : World) (g : Option Nat) (s0 : CvS) (u8 u10 : Value) (wr : World) : Prop :=
  ∃ (i : Nat) (s : CvS) (e : Int) (g' : Option Nat), u8 = .int .i64 e ∧ u10 = .int .i64 i ∧ i ≤ N ∧ CvW E g' s wr ∧ CvTo E g g' w0 wr ∧ Lone E g' wr b 48 #[.int .i64 r.p, .int .i64 r.q, .int .i64 r.t, .int .i64 r.v] ∧
    (e = 0 → s.left ≤ s0.left ∧ s.size ≤ s0.size + 1 ∧ cvElems E.l go r (N - i) i s = F) ∧ (e ≠ 0 → F = (s, e))
theorem at_ok {l : List UInt8} {p q t v : Int} {i : Nat} (h : lsE l p q t v = 0) (hi : i < lsLen l p q t v) (ha : atE l p q t v i = 0) : RqOk l.length (cvAt l ⟨p, q, t, v⟩ i) := by
  obtain ⟨h1, h2, _, h4⟩ := ls_room h
  have h5 : i * v.toNat + v.toNat ≤ lsLen l p q t v * v.toNat := by
    rw [← Nat.succ_mul]; exact Nat.mul_le_mul_right _ hi
  have h6 : lsLen l p q t v * v.toNat ≤ lsLen l p q t v * (v.toNat + tgs t) := Nat.mul_le_mul_left _ (Nat.le_add_right _ _)
  unfold RqOk cvAt atP atQ
  simp only [if_pos ha]
  generalize lsLen l p q t v * (v.toNat + tgs t) = X at *
  generalize lsLen l p q t v * v.toNat = Y at *
  rw [Int.toNat_natCast]
  generalize i * v.toNat = Z at *
  omega
theorem ls_to {l : List UInt8} {p q t v : Int} (h : lsE l p q t v = 0) : lsTo l p q t v = lsAt l p q t v + lsLen l p q t v * (v.toNat + tgs t) := by
  unfold lsTo lsAt lsLen
  rw [if_pos h, if_pos h, if_pos h]
  rfl
theorem elems_ok {l : List UInt8} {go : Rq → CvS → CvS × Int} {r x : Rq} {N i : Nat} {s st : CvS} {y F : CvS × Int} (h : atE l r.p r.q r.t r.v i = 0) (hst : cvTag l r i s = st) (hat : cvAt l r i = x) (hy : go x st = y) (hi : i < N) (hF : cvElems l go r (N - i) i s = F) :
    (y.2 = 0 → cvElems l go r (N - (i + 1)) (i + 1) y.1 = F) ∧ (y.2 ≠ 0 → F = (y.1, y.2)) := by
  obtain ⟨k, hk⟩ : ∃ k, N - i = k + 1 := ⟨N - i - 1, by omega⟩
  have hk2 : N - (i + 1) = k := by omega
  rw [hk, cvElems, if_neg (by rw [h]; decide), hst, hat, hy] at hF
  rw [hk2]
  refine ⟨fun h0 => ?_, fun h0 => ?_⟩
  · rw [if_neg (by rw [h0]; decide)] at hF
    exact hF
  · rw [if_pos h0] at hF
    exact hF.symm
theorem elems_no {l : List UInt8} {go : Rq → CvS → CvS × Int} {r : Rq} {N i : Nat} {s st : CvS} {F : CvS × Int} {ee : Int} (h : atE l r.p r.q r.t r.v i = ee) (he : ee ≠ 0) (hst : cvTag l r i s = st) (hi : i < N) (hF : cvElems l go r (N - i) i s = F) : F = (st, ee) := by
  obtain ⟨k, hk⟩ : ∃ k, N - i = k + 1 := ⟨N - i - 1, by omega⟩
  rw [hk, cvElems, if_pos (by rw [h]; exact he), hst, h] at hF
  exact hF.symm
set_option maxRecDepth 100000 in
set_option maxHeartbeats 4000000 in
theorem cvlist_spec (E : CvE) (go : Rq → CvS → CvS × Int) (d : Nat) (hgo : ComesAt E go d) (hgoes : Goes go) (g : Option Nat) (s : CvS) (p q t v : Int) (w : World) (h : CvW E g s w) (hd : s.left.toNat < d) (hs : s.size ≤ 899999993) :
    Calls Tryz.prog 56 #[.pointer (some ⟨E.bw, 0, none⟩), .agg #[.int .i64 p, .int .i64 q, .int .i64 t, .int .i64 v]] w (CvRes E g w (cvList E.l go ⟨p, q, t, v⟩ s)) := by
  have HC := Lib.hid (h.alloc (.cells #[.int .i64 p, .int .i64 q, .int .i64 t, .int .i64 v] 48))
  have HX := Lib.hid (h.lone 48 #[.int .i64 p, .int .i64 q, .int .i64 t, .int .i64 v])
  have HB := Lib.hid ((CvTo.refl E g w).alloc (.cells #[.int .i64 p, .int .i64 q, .int .i64 t, .int .i64 v] 48))
  have HGO := Lib.hid hgo
  have HGS := Lib.hid hgoes
  obtain ⟨f, hf⟩ : ∃ f : Int, (lsFrom E.l p q t v : Int) = f := ⟨_, rfl⟩
  obtain ⟨a, ha⟩ : ∃ a : Int, (lsAt E.l p q t v : Int) = a := ⟨_, rfl⟩
  obtain ⟨o, ho⟩ : ∃ a : Int, (lsTo E.l p q t v : Int) = a := ⟨_, rfl⟩
  obtain ⟨N, hN⟩ : ∃ N : Nat, lsLen E.l p q t v = N := ⟨_, rfl⟩
  obtain ⟨er, he⟩ : ∃ a, lsE E.l p q t v = a := ⟨_, rfl⟩
  have HF := Lib.hid hf
  have HAA := Lib.hid ha
  have HO := Lib.hid ho
  have HN := Lib.hid hN
  have HNI := Lib.hid (show (lsLen E.l p q t v : Int) = (N : Int) by rw [hN])
  have HEE := Lib.hid he
  have hcc := h.ok.hc
  have hnn := h.ok.hn
  have hlen := h.len
  clear h hf ha ho hN he hgo hgoes
  obtain ⟨c0, c1, c2, c3⟩ := HC.out.cells; have x0 := cell0 HX.out.1; have x1 := cell1 HX.out.1; have x2 := cell2 HX.out.1; have x3 := cell3 HX.out.1
  go_enter Tryz.func56, Tryz.ntmps56
  go_wp2_with fail
  go_region_held3 (fun w' => w'.cell? ⟨E.bw, 0, none⟩ = some (.slice E.A E.n E.c) ∧ w'.cell? ⟨E.bw, 3, none⟩ = some (.func (.func 26) #[] #[.pointer (some ⟨E.bl, 0, none⟩)]) ∧ (w'.cell? ⟨w.heap.size, 0, none⟩ = some (.int .i64 p) ∧ w'.cell? ⟨w.heap.size, 1, none⟩ = some (.int .i64 q) ∧ w'.cell? ⟨w.heap.size, 2, none⟩ = some (.int .i64 t) ∧ w'.cell? ⟨w.heap.size, 3, none⟩ = some (.int .i64 v))) (first | with_reducible exact ⟨c0, c3, x0, x1, x2, x3⟩ | with_reducible exact ⟨ldrew_ c0, ldrew_ c3, ldrew_ x0, ldrew_ x1, ldrew_ x2, ldrew_ x3⟩) (first | (go_at_call 90; (with_reducible refine (lspan_is E.A E.n E.c p q t v f a o er E.l _ HC.out.drew.b hcc (by omega) HF.out HAA.out HO.out HEE.out).mono ?_); rintro e w1 ⟨rfl, hb1⟩; replace HB := Lib.hid (HB.out.drew.below hb1); replace HC := Lib.hid (HC.out.drew.pure hb1); replace HX := Lib.hid (HX.out.drew.pure hb1); clear c0 c1 c2 c3 x0 x1 x2 x3; clear hb1; obtain ⟨c0, c1, c2, c3⟩ := HC.out.cells; have x0 := cell0 HX.out.1; have x1 := cell1 HX.out.1; have x2 := cell2 HX.out.1; have x3 := cell3 HX.out.1))
  by_cases he : er = 0
  · subst he
    obtain ⟨hv1, hv8, hroom, hle⟩ := ls_room HEE.out
    have hto := ls_to HEE.out
    obtain ⟨V, rfl⟩ : ∃ V : Nat, v = V := ⟨v.toNat, by omega⟩
    rw [Int.toNat_natCast, HN.out] at hle hto
    rw [Int.toNat_natCast] at hroom
    have hNV : N * V ≤ N * (V + tgs t) := Nat.mul_le_mul_left _ (Nat.le_add_right _ _)
    have HLE := Lib.hid hle
    have HTO := Lib.hid hto
    have HNV := Lib.hid hNV
    have HRM := Lib.hid hroom
    clear hle hto hNV hroom
    go_wp2_with fail
    go_region_held3 (fun w' => w'.cell? ⟨E.bw, 0, none⟩ = some (.slice E.A E.n E.c) ∧ w'.cell? ⟨E.bw, 3, none⟩ = some (.func (.func 26) #[] #[.pointer (some ⟨E.bl, 0, none⟩)]) ∧ (w'.cell? ⟨w.heap.size, 0, none⟩ = some (.int .i64 p) ∧ w'.cell? ⟨w.heap.size, 1, none⟩ = some (.int .i64 q) ∧ w'.cell? ⟨w.heap.size, 2, none⟩ = some (.int .i64 t) ∧ w'.cell? ⟨w.heap.size, 3, none⟩ = some (.int .i64 V))) (first | with_reducible exact ⟨c0, c3, x0, x1, x2, x3⟩ | with_reducible exact ⟨ldrew_ c0, ldrew_ c3, ldrew_ x0, ldrew_ x1, ldrew_ x2, ldrew_ x3⟩) (first | (go_at_call 91; (with_reducible refine (llen_is E.A E.n E.c p q t V N 0 E.l _ HC.out.drew.b hcc (by omega) HNI.out HEE.out).mono ?_); rintro e w1 ⟨rfl, hb1⟩; replace HB := Lib.hid (HB.out.drew.below hb1); replace HC := Lib.hid (HC.out.drew.pure hb1); replace HX := Lib.hid (HX.out.drew.pure hb1); clear c0 c1 c2 c3 x0 x1 x2 x3; clear hb1; obtain ⟨c0, c1, c2, c3⟩ := HC.out.cells; have x0 := cell0 HX.out.1; have x1 := cell1 HX.out.1; have x2 := cell2 HX.out.1; have x3 := cell3 HX.out.1))
    obtain ⟨y, hy⟩ : ∃ y, cvHead E.l go ⟨p, q, t, V⟩ s = y := ⟨_, rfl⟩
    have HY := Lib.hid hy
    clear hy
    go_upto_if 42 with fail
    go_cut [8] (fun u8 wx => ∃ wy, wy = wx ∧ u8 = .int .i64 y.2 ∧ ∃ g', CvW E g' y.1 wx ∧ CvTo E g g' w wx ∧ Lone E g' wx w.heap.size 48 #[.int .i64 p, .int .i64 q, .int .i64 t, .int .i64 V])
    case first =>
      by_cases h9 : t = 9
      · subst h9
        have hy := HY.out
        unfold cvHead at hy
        rw [if_pos rfl] at hy
        have hk := cvkeys_spec E go d HGO.out HGS.out g s p q 9 V f _ HC.out hd (by omega) HF.out
        rw [hy] at hk
        have HK := Lib.hid hk
        clear hy hk
        go_wp2_with fail
        go_at_call 92
        refine HK.out.mono ?_
        rintro e w2 ⟨rfl, g2, hC, hT⟩
        have HC2 := Lib.hid hC
        have HT2 := Lib.hid hT
        clear hC hT HK
        go_wp2_with fail
        go_meet
        exact ⟨_, rfl, rfl, g2, HC2.out, HB.out.trans HT2.out, HX.out.to HT2.out⟩
      · have hy := HY.out
        unfold cvHead at hy
        rw [if_neg h9] at hy
        subst hy
        have e9 : (t == 9) = false := beq_eq_false_iff_ne.mpr h9
        clear h9
        go_wp2_with fail
        go_meet
        exact ⟨_, rfl, rfl, g, HC.out, HB.out, HX.out⟩
    case rest =>
    obtain ⟨w2, rfl, rfl, g2, hC2, hT2, hX2⟩ := hcut
    have HC := Lib.hid hC2
    have HB := Lib.hid hT2
    have HX := Lib.hid hX2
    clear hC2 hT2 hX2
    clear c0 c1 c2 c3 x0 x1 x2 x3
    obtain ⟨c0, c1, c2, c3⟩ := HC.out.cells; have x0 := cell0 HX.out.1; have x1 := cell1 HX.out.1; have x2 := cell2 HX.out.1; have x3 := cell3 HX.out.1
    go_upto_region 7 with fail
    go_cut [53] (fun u53 wx => ∃ wy, wy = wx ∧ u53 = .bool (decide (y.2 = 0 ∧ f < a)) ∧ wx = w2)
    case first =>
      clear c0 c1 c2 c3 x0 x1 x2 x3
      clear HC HB HX
      by_cases hy0 : y.2 = 0
      · have hyb : (y.2 == 0) = true := by simpa using hy0
        have HY0 := Lib.hid hy0
        clear hy0
        by_cases hfa : f < a
        · have HD := Lib.hid (show decide (y.2 = 0 ∧ f < a) = true from decide_eq_true ⟨HY0.out, hfa⟩)
          go_wp2_with fail
          go_meet
          rw [HD.out]
          exact ⟨_, rfl, rfl, rfl⟩
        · have HD := Lib.hid (show decide (y.2 = 0 ∧ f < a) = false from decide_eq_false fun h => hfa h.2)
          have hfd : decide (f < a) = false := decide_eq_false hfa
          clear hfa
          go_wp2_with fail
          go_meet
          rw [HD.out]
          exact ⟨_, rfl, rfl, rfl⟩
      · have hyb : (y.2 == 0) = false := beq_eq_false_iff_ne.mpr hy0
        have HD := Lib.hid (show decide (y.2 = 0 ∧ f < a) = false from decide_eq_false fun h => hy0 h.1)
        clear hy0
        go_wp2_with fail
        go_meet
        rw [HD.out]
        exact ⟨_, rfl, rfl, rfl⟩
    case rest =>
    obtain ⟨w2, rfl, rfl, rfl⟩ := hcut
    obtain ⟨z, hz⟩ : ∃ z, (if y.2 = 0 then cvLen E.l ⟨p, q, t, V⟩ y.1 else y.1) = z := ⟨_, rfl⟩
    have HZ := Lib.hid hz
    have hgrow := head_grew (l := E.l) ⟨p, q, t, V⟩ HGS.out s
    rw [HY.out] at hgrow
    have hgr2 := len_grew (l := E.l) ⟨p, q, t, V⟩ y.1
    have hgz : z.left ≤ s.left ∧ z.size ≤ s.size + 1 := by
      subst hz
      split
      · exact ⟨Int.le_trans hgr2.1 hgrow.1, by have := hgr2.2; have := hgrow.2; omega⟩
      · exact ⟨hgrow.1, by have := hgrow.2; omega⟩
    have hyo : y.1.out.length ≤ 899999993 := by have := size_out y.1; have := hgrow.2; omega
    have hzl := hgz.1
    have hzs := hgz.2
    clear hz hgrow hgr2 hgz
    go_upto_if 53 with fail
    go_cut [] (fun wx => ∃ wy, wy = wx ∧ ∃ g', CvW E g' z wx ∧ CvTo E g g' w wx ∧ Lone E g' wx w.heap.size 48 #[.int .i64 p, .int .i64 q, .int .i64 t, .int .i64 V])
    case first =>
      by_cases hc : y.2 = 0 ∧ f < a
      · have hd : decide (y.2 = 0 ∧ f < a) = true := decide_eq_true hc
        rw [hd]
        have hz := HZ.out
        rw [if_pos hc.1] at hz
        unfold cvLen at hz
        rw [if_pos (by have h1 := HF.out; have h2 := HAA.out; have := hc.2; simp only; omega)] at hz
        have hz2 : y.1.tell (a - V) a 6 = z := by rw [← hz]; simp only [HAA.out]
        replace HZ := Lib.hid hz2
        have ha0 : 0 ≤ a := by have := HAA.out; omega
        have ha1 : a ≤ 4294967296 := by have h1 := HAA.out; have h2 := HLE.out; omega
        have hw1 : IntKind.i64.wrap (a - V) = a - V := IntWalk.i64_in _ (by omega)
        clear hz hz2 hd hc
        go_wp2_with fail
        go_region_held3 (fun w' => w'.cell? ⟨E.bw, 0, none⟩ = some (.slice E.A E.n E.c) ∧ w'.cell? ⟨E.bw, 3, none⟩ = some (.func (.func 26) #[] #[.pointer (some ⟨E.bl, 0, none⟩)]) ∧ (w'.cell? ⟨w.heap.size, 0, none⟩ = some (.int .i64 p) ∧ w'.cell? ⟨w.heap.size, 1, none⟩ = some (.int .i64 q) ∧ w'.cell? ⟨w.heap.size, 2, none⟩ = some (.int .i64 t) ∧ w'.cell? ⟨w.heap.size, 3, none⟩ = some (.int .i64 V))) (first | with_reducible exact ⟨c0, c3, x0, x1, x2, x3⟩ | with_reducible exact ⟨ldrew_ c0, ldrew_ c3, ldrew_ x0, ldrew_ x1, ldrew_ x2, ldrew_ x3⟩) (first | (go_at_call 26; (with_reducible refine (tell_cv (a - V) a 6 HC.out.drew (by omega)).mono ?_); rintro e w3 ⟨rfl, g3, hC3, hT3⟩; replace HB := Lib.hid (HB.out.drew.trans hT3); replace HX := Lib.hid (HX.out.drew.to hT3); replace HC := Lib.hid hC3; clear c0 c1 c2 c3 x0 x1 x2 x3; clear hC3 hT3; obtain ⟨c0, c1, c2, c3⟩ := HC.out.cells; have x0 := cell0 HX.out.1; have x1 := cell1 HX.out.1; have x2 := cell2 HX.out.1; have x3 := cell3 HX.out.1))
        go_wp2_with fail
        go_meet
        rw [← HZ.out]
        exact ⟨_, rfl, _, HC.out, HB.out, HX.out⟩
      · have hd : decide (y.2 = 0 ∧ f < a) = false := decide_eq_false hc
        rw [hd]
        have hz := HZ.out
        have e : z = y.1 := by
          subst hz
          split
          · rename_i h0
            unfold cvLen
            rw [if_neg]
            intro h
            exact hc ⟨h0, by have h1 := HF.out; have h2 := HAA.out; simp only at h; omega⟩
          · rfl
        subst e
        clear hz hd hc
        go_wp2_with fail
        go_meet
        exact ⟨_, rfl, _, HC.out, HB.out, HX.out⟩
    case rest =>
    obtain ⟨w3, rfl, g3, hC3, hT3, hX3⟩ := hcut
    obtain ⟨F, hF⟩ : ∃ F, (if y.2 = 0 then cvElems E.l go ⟨p, q, t, V⟩ N 0 z else y) = F := ⟨_, rfl⟩
    have HFF := Lib.hid hF
    have hrel : LiRel E go ⟨p, q, t, V⟩ N F w.heap.size w g s (.int .i64 y.2) (.int .i64 0) w3 :=
      ⟨0, z, y.2, g3, rfl, rfl, Nat.zero_le _, hC3, hT3, hX3, fun h => ⟨hzl, hzs, by rw [if_pos h] at hF; exact hF⟩, fun h => by
        have hz := HZ.out
        rw [if_neg h] at hF hz
        rw [← hF, ← hz]⟩
    have HREL := Lib.hid hrel
    have hlf : cvList E.l go ⟨p, q, t, V⟩ s = F := by
      have hz := HZ.out
      unfold cvList
      rw [if_neg (by rw [HEE.out]; decide), HY.out]
      by_cases h : y.2 = 0
      · rw [if_pos h] at hF hz
        rw [if_neg (by rw [h]; decide), hz, ← hF]
        simp only [HN.out]
      · rw [if_neg h] at hF
        rw [if_pos h, hF]
    have HLF := Lib.hid hlf
    have HTN := Lib.hid (show (N : Int) * (V : Int) ≤ 4294967296 ∧ (0 : Int) ≤ (N : Int) * (V : Int) ∧ 0 ≤ a ∧ a ≤ 4294967296 ∧ N ≤ 4294967296 from by
      have h1 := HLE.out
      have h2 := HNV.out
      have h3 := HAA.out
      have h5 : ((N * V : Nat) : Int) = (N : Int) * (V : Int) := Int.natCast_mul _ _
      have h6 : N ≤ N * V := Nat.le_mul_of_pos_right _ (by omega)
      refine ⟨by omega, by omega, by omega, by omega, by omega⟩)
    clear hF hrel hC3 hT3 hX3 hlf
    clear c0 c1 c2 c3 x0 x1 x2 x3
    clear HC HX HB
    go_upto_region 9 with fail
    go_wp2_with fail
    go_loopw [8, 10] (fun u8 u10 wr => LiRel E go ⟨p, q, t, V⟩ N F w.heap.size w g s u8 u10 wr) (fun _ u10 _ => N - (intOf u10).toNat)
    case atStart => exact HREL.out
    case round =>
      clear HREL
      obtain ⟨i, s1, e1, g1, rfl, rfl, hi, hC1, hT1, hX1, hz0, hne⟩ := hrel
      have HC := Lib.hid hC1
      have HB := Lib.hid hT1
      have HX := Lib.hid hX1
      have HNE := Lib.hid hne
      have HZ0 := Lib.hid hz0
      clear hC1 hT1 hX1 hne hz0
      obtain ⟨hP1, hP0, ha0, ha1, hN1⟩ := HTN.out
      by_cases he1 : e1 = 0
      · subst he1
        obtain ⟨hl1, hs1, hF1⟩ := HZ0.out rfl
        by_cases hlt : i < N
        · have HF1 := Lib.hid hF1
          clear hF1 HNE HZ0
          obtain ⟨st, hst⟩ : ∃ st, cvTag E.l ⟨p, q, t, V⟩ i s1 = st := ⟨_, rfl⟩
          have hstg := tag_grew (l := E.l) ⟨p, q, t, V⟩ i s1
          rw [hst] at hstg
          have hstl : st.left ≤ s.left := Int.le_trans hstg.1 hl1
          have hsts : st.size ≤ s.size + 2 := by have := hstg.2; omega
          have hs1o : s1.out.length ≤ 899999999 := by have := size_out s1; omega
          have HST := Lib.hid hst
          clear hst hstg
          obtain ⟨c0, c1, c2, c3⟩ := HC.out.cells; have x0 := cell0 HX.out.1; have x1 := cell1 HX.out.1; have x2 := cell2 HX.out.1; have x3 := cell3 HX.out.1
          by_cases htg : tagT t = true
          · have hdt : decide (a + (N : Int) * (V : Int) < o) = true := by
              apply decide_eq_true
              have h1 := HTO.out; have h2 := HO.out; have h3 := HAA.out
              have h4 : tgs t = 1 := if_pos htg
              rw [h4, Nat.mul_add, Nat.mul_one] at h1
              have h5 : ((N * V : Nat) : Int) = (N : Int) * (V : Int) := Int.natCast_mul _ _
              omega
            have e : s1.tell (a + (N : Int) * (V : Int) + (i : Int)) (a + (N : Int) * (V : Int) + (i : Int) + 1) 8 = st := by
              rw [← HST.out]
              unfold cvTag
              rw [if_pos htg]
              simp only [HAA.out, HN.out]
            have HE := Lib.hid e
            clear e htg
            go_wp2_with (go_at_call 26; (with_reducible refine (tell_cv (a + (N : Int) * (V : Int) + (i : Int)) (a + (N : Int) * (V : Int) + (i : Int) + 1) 8 HC.out (by omega)).mono ?_); rintro e w4 ⟨rfl, g4, hC4, hT4⟩; rw [HE.out] at hC4; replace HB := Lib.hid (HB.out.trans hT4); replace HX := Lib.hid (HX.out.to hT4); replace HC := Lib.hid hC4; clear c0 c1 c2 c3 x0 x1 x2 x3; clear hC4 hT4; obtain ⟨c0, c1, c2, c3⟩ := HC.out.cells; have x0 := cell0 HX.out.1; have x1 := cell1 HX.out.1; have x2 := cell2 HX.out.1; have x3 := cell3 HX.out.1)
            go_upto_region 16 with fail
            obtain ⟨a0, ha0'⟩ : ∃ x, atP E.l p q t V i = x := ⟨_, rfl⟩
            obtain ⟨b0, hb0'⟩ : ∃ x, atQ E.l p q t V i = x := ⟨_, rfl⟩
            obtain ⟨d0, hd0'⟩ : ∃ x, atT E.l p q t V i = x := ⟨_, rfl⟩
            obtain ⟨g0, hg0'⟩ : ∃ x, atV E.l p q t V i = x := ⟨_, rfl⟩
            obtain ⟨ee, hee'⟩ : ∃ x, atE E.l p q t V i = x := ⟨_, rfl⟩
            have HA0 := Lib.hid ha0'
            have HA1 := Lib.hid hb0'
            have HA2 := Lib.hid hd0'
            have HA3 := Lib.hid hg0'
            have HA4 := Lib.hid hee'
            clear ha0' hb0' hd0' hg0' hee'
            have hFree := HC.out.new
            have HFR := Lib.hid hFree
            clear hFree
            clear c0 c1 c2 c3 x0 x1 x2 x3
            go_cut [8] from 64 to 108 (fun u8 wx => ∃ wy, wy = wx ∧ u8 = .int .i64 ee ∧ Blk wx w4.heap.size 48 #[.int .i64 a0, .int .i64 b0, .int .i64 d0, .int .i64 g0] ∧ Below w4.heap.size w4 wx)
            case first =>
              have HK := Lib.hid (Blk.new w4 48 #[.int .i64 0, .int .i64 0, .int .i64 0, .int .i64 0])
              have HQ := Lib.hid ((Below.refl w4.heap.size w4).alloc (Nat.le_refl _) (.cells #[.int .i64 0, .int .i64 0, .int .i64 0, .int .i64 0] 48))
              have HW := Lib.hid (HC.out.W.alloc (.cells #[.int .i64 0, .int .i64 0, .int .i64 0, .int .i64 0] 48))
              have HR := Lib.hid (HX.out.1.alloc (.cells #[.int .i64 0, .int .i64 0, .int .i64 0, .int .i64 0] 48))
              have HL := Lib.hid (HC.out.b.alloc (.cells #[.int .i64 0, .int .i64 0, .int .i64 0, .int .i64 0] 48))
              have hn1 : E.bw ≠ w4.heap.size := by have := HC.out.W.lt; omega
              have hn2 : w.heap.size ≠ w4.heap.size := by have := HX.out.1.lt; omega
              clear HC HB HX HF1 HST
              generalize w4.alloc (.cells #[.int .i64 0, .int .i64 0, .int .i64 0, .int .i64 0] 48) = wa at HK HQ HW HR HL ⊢
              have c0 : _ = some (Value.slice E.A E.n E.c) := HW.out.cell 0; have x0 := cell0 HR.out; have x1 := cell1 HR.out; have x2 := cell2 HR.out; have x3 := cell3 HR.out; have q0 := cell0 HK.out; have q1 := cell1 HK.out; have q2 := cell2 HK.out; have q3 := cell3 HK.out; have p0 := HK.out.frozen 0; have p1 := HK.out.frozen 1; have p2 := HK.out.frozen 2; have p3 := HK.out.frozen 3
              go_region_held3 (fun w' => w'.cell? ⟨E.bw, 0, none⟩ = some (.slice E.A E.n E.c) ∧ (w'.cell? ⟨w.heap.size, 0, none⟩ = some (.int .i64 p) ∧ w'.cell? ⟨w.heap.size, 1, none⟩ = some (.int .i64 q) ∧ w'.cell? ⟨w.heap.size, 2, none⟩ = some (.int .i64 t) ∧ w'.cell? ⟨w.heap.size, 3, none⟩ = some (.int .i64 V))) ((with_reducible refine ⟨?_, ?_, ?_, ?_, ?_⟩) <;> (repeat (first | with_reducible assumption | with_reducible refine ldrew ?_ | with_reducible refine lalloc _ ?_ | with_reducible refine lsetA ?_ ?_)))
                (first | (go_at_call 93; (with_reducible refine (lat_is E.A E.n E.c p q t V i a0 b0 d0 g0 ee E.l _ (HL.out.pure (Below.refl _ _).drew) hcc (by omega) HA0.out HA1.out HA2.out HA3.out HA4.out).mono ?_); rintro e w5 ⟨rfl, hb⟩; replace HQ := Lib.hid (pure_below HQ.out.drew hb); replace HW := Lib.hid (HW.out.drew.pure hb); replace HR := Lib.hid (HR.out.drew.pure hb); replace HK := Lib.hid (HK.out.drew.pure hb); clear hb c0 x0 x1 x2 x3 q0 q1 q2 q3 p0 p1 p2 p3; have c0 : _ = some (Value.slice E.A E.n E.c) := HW.out.cell 0; have x0 := cell0 HR.out; have x1 := cell1 HR.out; have x2 := cell2 HR.out; have x3 := cell3 HR.out; have q0 := cell0 HK.out; have q1 := cell1 HK.out; have q2 := cell2 HK.out; have q3 := cell3 HK.out; have p0 := HK.out.frozen 0; have p1 := HK.out.frozen 1; have p2 := HK.out.frozen 2; have p3 := HK.out.frozen 3))
              go_wp2_with fail
              go_meet
              exact ⟨_, rfl, rfl, (((HK.out.set_ 0 _).set_ 1 _).set_ 2 _).set_ 3 _, below_set4 _ HQ.out (Nat.le_refl _) _ _ _ _⟩
            case rest =>
            obtain ⟨w6, rfl, rfl, hK6, hb6⟩ := hcut
            have HK := Lib.hid (show Lone E g4 w6 w4.heap.size 48 #[.int .i64 a0, .int .i64 b0, .int .i64 d0, .int .i64 g0] from ⟨hK6, HFR.out⟩)
            replace HC := Lib.hid (HC.out.pure hb6)
            replace HX := Lib.hid (HX.out.pure hb6)
            replace HB := Lib.hid (HB.out.below hb6)
            clear hK6 hb6
            by_cases hee : ee = 0
            · subst hee
              have hok := at_ok HEE.out (by rw [HN.out]; exact hlt) HA4.out
              have hat : cvAt E.l ⟨p, q, t, V⟩ i = ⟨a0, b0, d0, g0⟩ := by unfold cvAt; simp only [HA0.out, HA1.out, HA2.out, HA3.out]
              rw [hat] at hok
              obtain ⟨y2, hy2⟩ : ∃ y, go ⟨a0, b0, d0, g0⟩ st = y := ⟨_, rfl⟩
              have hstep := elems_ok (l := E.l) (r := ⟨p, q, t, V⟩) HA4.out HST.out hat hy2 hlt HF1.out
              have hcm := HGO.out _ st a0 b0 d0 g0 w6 HC.out (by omega) (by omega) hok
              have hgr := HGS.out ⟨a0, b0, d0, g0⟩ st
              rw [hy2] at hcm hgr
              have HCM := Lib.hid hcm
              have HGR := Lib.hid hgr
              have HSTEP := Lib.hid hstep
              have k0 := cell0 HK.out.1
              have k1 := cell1 HK.out.1
              have k2 := cell2 HK.out.1
              have k3 := cell3 HK.out.1
              clear hok hat hy2 hstep hcm hgr HF1
              go_wp2_with fail
              go_at_call 27
              refine HCM.out.mono ?_
              rintro e w7 ⟨rfl, g7, hC7, hT7⟩
              replace HB := Lib.hid (HB.out.trans hT7)
              replace HX := Lib.hid (HX.out.to hT7)
              replace HC := Lib.hid hC7
              clear HK hC7 hT7 HCM k0 k1 k2 k3
              go_wp2_with fail
              go_roundw
              case rel => exact ⟨i + 1, y2.1, y2.2, g7, rfl, by go_num, by omega, HC.out, HB.out, HX.out, fun h => ⟨Int.le_trans HGR.out.1.1 hstl, by have := HGR.out.2 h; omega, HSTEP.out.1 h⟩, HSTEP.out.2⟩
              case measure => simp [intOf]; omega
            · have hb1 : (ee == 0) = false := beq_eq_false_iff_ne.mpr hee
              have HEN := Lib.hid (elems_no (l := E.l) (r := ⟨p, q, t, V⟩) HA4.out hee HST.out hlt HF1.out)
              have HE0 := Lib.hid hee
              clear hee HF1
              go_wp2_with fail
              go_roundw
              case rel => exact ⟨i + 1, st, ee, _, rfl, by go_num, by omega, HC.out, HB.out, HX.out, fun h => absurd h HE0.out, fun _ => HEN.out⟩
              case measure => simp [intOf]; omega
          · have hdt : decide (a + (N : Int) * (V : Int) < o) = false := by
              apply decide_eq_false
              have h1 := HTO.out; have h2 := HO.out; have h3 := HAA.out
              have h4 : tgs t = 0 := if_neg htg
              rw [h4, Nat.add_zero] at h1
              have h5 : ((N * V : Nat) : Int) = (N : Int) * (V : Int) := Int.natCast_mul _ _
              omega
            have e : st = s1 := by
              rw [← HST.out]
              unfold cvTag
              rw [if_neg htg]
            subst e
            clear htg
            go_upto_region 16 with fail
            obtain ⟨a0, ha0'⟩ : ∃ x, atP E.l p q t V i = x := ⟨_, rfl⟩
            obtain ⟨b0, hb0'⟩ : ∃ x, atQ E.l p q t V i = x := ⟨_, rfl⟩
            obtain ⟨d0, hd0'⟩ : ∃ x, atT E.l p q t V i = x := ⟨_, rfl⟩
            obtain ⟨g0, hg0'⟩ : ∃ x, atV E.l p q t V i = x := ⟨_, rfl⟩
            obtain ⟨ee, hee'⟩ : ∃ x, atE E.l p q t V i = x := ⟨_, rfl⟩
            have HA0 := Lib.hid ha0'
            have HA1 := Lib.hid hb0'
            have HA2 := Lib.hid hd0'
            have HA3 := Lib.hid hg0'
            have HA4 := Lib.hid hee'
            clear ha0' hb0' hd0' hg0' hee'
            have hFree := HC.out.new
            have HFR := Lib.hid hFree
            clear hFree
            clear c0 c1 c2 c3 x0 x1 x2 x3
            go_cut [8] from 64 to 108 (fun u8 wx => ∃ wy, wy = wx ∧ u8 = .int .i64 ee ∧ Blk wx wr.heap.size 48 #[.int .i64 a0, .int .i64 b0, .int .i64 d0, .int .i64 g0] ∧ Below wr.heap.size wr wx)
            case first =>
              have HK := Lib.hid (Blk.new wr 48 #[.int .i64 0, .int .i64 0, .int .i64 0, .int .i64 0])
              have HQ := Lib.hid ((Below.refl wr.heap.size wr).alloc (Nat.le_refl _) (.cells #[.int .i64 0, .int .i64 0, .int .i64 0, .int .i64 0] 48))
              have HW := Lib.hid (HC.out.W.alloc (.cells #[.int .i64 0, .int .i64 0, .int .i64 0, .int .i64 0] 48))
              have HR := Lib.hid (HX.out.1.alloc (.cells #[.int .i64 0, .int .i64 0, .int .i64 0, .int .i64 0] 48))
              have HL := Lib.hid (HC.out.b.alloc (.cells #[.int .i64 0, .int .i64 0, .int .i64 0, .int .i64 0] 48))
              have hn1 : E.bw ≠ wr.heap.size := by have := HC.out.W.lt; omega
              have hn2 : w.heap.size ≠ wr.heap.size := by have := HX.out.1.lt; omega
              clear HC HB HX HF1 HST
              generalize wr.alloc (.cells #[.int .i64 0, .int .i64 0, .int .i64 0, .int .i64 0] 48) = wa at HK HQ HW HR HL ⊢
              have c0 : _ = some (Value.slice E.A E.n E.c) := HW.out.cell 0; have x0 := cell0 HR.out; have x1 := cell1 HR.out; have x2 := cell2 HR.out; have x3 := cell3 HR.out; have q0 := cell0 HK.out; have q1 := cell1 HK.out; have q2 := cell2 HK.out; have q3 := cell3 HK.out; have p0 := HK.out.frozen 0; have p1 := HK.out.frozen 1; have p2 := HK.out.frozen 2; have p3 := HK.out.frozen 3
              go_region_held3 (fun w' => w'.cell? ⟨E.bw, 0, none⟩ = some (.slice E.A E.n E.c) ∧ (w'.cell? ⟨w.heap.size, 0, none⟩ = some (.int .i64 p) ∧ w'.cell? ⟨w.heap.size, 1, none⟩ = some (.int .i64 q) ∧ w'.cell? ⟨w.heap.size, 2, none⟩ = some (.int .i64 t) ∧ w'.cell? ⟨w.heap.size, 3, none⟩ = some (.int .i64 V))) ((with_reducible refine ⟨?_, ?_, ?_, ?_, ?_⟩) <;> (repeat (first | with_reducible assumption | with_reducible refine ldrew ?_ | with_reducible refine lalloc _ ?_ | with_reducible refine lsetA ?_ ?_)))
                (first | (go_at_call 93; (with_reducible refine (lat_is E.A E.n E.c p q t V i a0 b0 d0 g0 ee E.l _ (HL.out.pure (Below.refl _ _).drew) hcc (by omega) HA0.out HA1.out HA2.out HA3.out HA4.out).mono ?_); rintro e w5 ⟨rfl, hb⟩; replace HQ := Lib.hid (pure_below HQ.out.drew hb); replace HW := Lib.hid (HW.out.drew.pure hb); replace HR := Lib.hid (HR.out.drew.pure hb); replace HK := Lib.hid (HK.out.drew.pure hb); clear hb c0 x0 x1 x2 x3 q0 q1 q2 q3 p0 p1 p2 p3; have c0 : _ = some (Value.slice E.A E.n E.c) := HW.out.cell 0; have x0 := cell0 HR.out; have x1 := cell1 HR.out; have x2 := cell2 HR.out; have x3 := cell3 HR.out; have q0 := cell0 HK.out; have q1 := cell1 HK.out; have q2 := cell2 HK.out; have q3 := cell3 HK.out; have p0 := HK.out.frozen 0; have p1 := HK.out.frozen 1; have p2 := HK.out.frozen 2; have p3 := HK.out.frozen 3))
              go_wp2_with fail
              go_meet
              exact ⟨_, rfl, rfl, (((HK.out.set_ 0 _).set_ 1 _).set_ 2 _).set_ 3 _, below_set4 _ HQ.out (Nat.le_refl _) _ _ _ _⟩
            case rest =>
            obtain ⟨w6, rfl, rfl, hK6, hb6⟩ := hcut
            have HK := Lib.hid (show Lone E g1 w6 wr.heap.size 48 #[.int .i64 a0, .int .i64 b0, .int .i64 d0, .int .i64 g0] from ⟨hK6, HFR.out⟩)
            replace HC := Lib.hid (HC.out.pure hb6)
            replace HX := Lib.hid (HX.out.pure hb6)
            replace HB := Lib.hid (HB.out.below hb6)
            clear hK6 hb6
            by_cases hee : ee = 0
            · subst hee
              have hok := at_ok HEE.out (by rw [HN.out]; exact hlt) HA4.out
              have hat : cvAt E.l ⟨p, q, t, V⟩ i = ⟨a0, b0, d0, g0⟩ := by unfold cvAt; simp only [HA0.out, HA1.out, HA2.out, HA3.out]
              rw [hat] at hok
              obtain ⟨y2, hy2⟩ : ∃ y, go ⟨a0, b0, d0, g0⟩ st = y := ⟨_, rfl⟩
              have hstep := elems_ok (l := E.l) (r := ⟨p, q, t, V⟩) HA4.out HST.out hat hy2 hlt HF1.out
              have hcm := HGO.out _ st a0 b0 d0 g0 w6 HC.out (by omega) (by omega) hok
              have hgr := HGS.out ⟨a0, b0, d0, g0⟩ st
              rw [hy2] at hcm hgr
              have HCM := Lib.hid hcm
              have HGR := Lib.hid hgr
              have HSTEP := Lib.hid hstep
              have k0 := cell0 HK.out.1
              have k1 := cell1 HK.out.1
              have k2 := cell2 HK.out.1
              have k3 := cell3 HK.out.1
              clear hok hat hy2 hstep hcm hgr HF1
              go_wp2_with fail
              go_at_call 27
              refine HCM.out.mono ?_
              rintro e w7 ⟨rfl, g7, hC7, hT7⟩
              replace HB := Lib.hid (HB.out.trans hT7)
              replace HX := Lib.hid (HX.out.to hT7)
              replace HC := Lib.hid hC7
              clear HK hC7 hT7 HCM k0 k1 k2 k3
              go_wp2_with fail
              go_roundw
              case rel => exact ⟨i + 1, y2.1, y2.2, g7, rfl, by go_num, by omega, HC.out, HB.out, HX.out, fun h => ⟨Int.le_trans HGR.out.1.1 hstl, by have := HGR.out.2 h; omega, HSTEP.out.1 h⟩, HSTEP.out.2⟩
              case measure => simp [intOf]; omega
            · have hb1 : (ee == 0) = false := beq_eq_false_iff_ne.mpr hee
              have HEN := Lib.hid (elems_no (l := E.l) (r := ⟨p, q, t, V⟩) HA4.out hee HST.out hlt HF1.out)
              have HE0 := Lib.hid hee
              clear hee HF1
              go_wp2_with fail
              go_roundw
              case rel => exact ⟨i + 1, st, ee, _, rfl, by go_num, by omega, HC.out, HB.out, HX.out, fun h => absurd h HE0.out, fun _ => HEN.out⟩
              case measure => simp [intOf]; omega
        · have hie : N - i = 0 := by omega
          rw [hie] at hF1
          have HF1 := Lib.hid (show F = (s1, 0) from hF1.symm)
          clear hF1 hie
          go_wp2_with fail
          go_ret
          rw [HLF.out, HF1.out]
          exact ⟨rfl, _, HC.out, HB.out⟩
      · have hb1 : (e1 == 0) = false := beq_eq_false_iff_ne.mpr he1
        have HF1 := Lib.hid (HNE.out he1)
        clear he1 HNE HZ0
        go_wp2_with fail
        all_goals
          go_ret
          rw [HLF.out, HF1.out]
          exact ⟨rfl, _, HC.out, HB.out⟩
  · have hne : (er != 0) = true := by simpa using he
    have e : cvList E.l go ⟨p, q, t, v⟩ s = (s, er) := by
      unfold cvList
      rw [HEE.out, if_pos he]
    have HR := Lib.hid e
    clear e he
    go_wp2_with fail
    go_ret
    rw [HR.out]
    exact ⟨rfl, _, HC.out, HB.out⟩
end Go.Proofs.YtejalfjeihlpeaaGreat
