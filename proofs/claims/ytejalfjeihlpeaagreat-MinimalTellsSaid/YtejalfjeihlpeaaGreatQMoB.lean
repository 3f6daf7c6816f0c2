/-
  Package accordionref30: whether a vector or a map fits a width.
-/
import Derived.Test.YtejalfjeihlpeaaGreatQMoA
namespace Go.Proofs.YtejalfjeihlpeaaGreat
open Go.RowKit Go.Acc
def rmElem (l : List UInt8) (r : Rq) (f : Int) (i : Nat) : Bool := mnStands l (cvAt l r i).p (cvAt l r i).q (cvAt l r i).t (cvAt l r i).v (lsFrom l r.p r.q r.t r.v + (aheadT r.t : Int) * f + i * f) f
def rmList (l : List UInt8) (r : Rq) (f : Int) : Bool :=
  if 0 < aheadT r.t ∧ f < wdU (lsLen l r.p r.q r.t r.v) then false
  else if r.t = 9 ∧ mnStands l (cvKey l r).p (cvKey l r).q (cvKey l r).t (cvKey l r).v (lsFrom l r.p r.q r.t r.v) f = false then false
  else (List.range (lsLen l r.p r.q r.t r.v)).all (rmElem l r f)
theorem ahead_eq {l : List UInt8} {r : Rq} (hl : lsE l r.p r.q r.t r.v = 0) : mnAhead l r = aheadT r.t := by
  obtain ⟨_, _, h3, _, hA, _⟩ := ls_parts hl
  have hW := isW_iff.1 (may_tgt h3).2.2.2.2.2.2
  unfold mnAhead lsAt lsFrom
  rw [if_pos hl, if_pos hl]
  have : ((tgt l r.p r.q r.t r.v).toNat : Int) - (((tgt l r.p r.q r.t r.v).toNat - aheadT r.t * r.v.toNat : Nat) : Int) = (aheadT r.t : Int) * r.v := by
    have e5 : ((aheadT r.t * r.v.toNat : Nat) : Int) = (aheadT r.t : Int) * r.v := by rw [Int.natCast_mul, Int.toNat_of_nonneg (by omega)]
    rw [← e5]
    omega
  rw [this]
  exact Int.mul_ediv_cancel _ (by omega)
theorem ahead_three {t : Int} : aheadT t = 3 ↔ t = 9 := by
  unfold aheadT
  constructor
  · intro h
    split at h
    · assumption
    · split at h <;> omega
  · intro h
    rw [if_pos h]
theorem rm_list (l : List UInt8) (r : Rq) {f : Int} (hf : 1 ≤ f) : rmList l r f = mnList l r f := by
  by_cases hl : lsE l r.p r.q r.t r.v = 0
  · have e := ahead_eq hl
    unfold rmList mnList
    rw [e]
    have h3 : ((aheadT r.t : Nat) : Int) = 3 ↔ r.t = 9 := by
      rw [← ahead_three]
      omega
    have hel : rmElem l r f = mnElem l r f := by
      funext i
      unfold rmElem mnElem
      rw [e, Int.add_mul, Int.add_assoc]
    rw [hel]
    by_cases h1 : 0 < aheadT r.t ∧ f < wdU (lsLen l r.p r.q r.t r.v)
    · rw [if_pos h1, if_pos (show 0 < ((aheadT r.t : Nat) : Int) ∧ f < wdU (lsLen l r.p r.q r.t r.v) from ⟨by omega, h1.2⟩)]
    rw [if_neg h1, if_neg (show ¬ (0 < ((aheadT r.t : Nat) : Int) ∧ f < wdU (lsLen l r.p r.q r.t r.v)) from fun h => h1 ⟨by omega, h.2⟩)]
    by_cases h2 : r.t = 9 ∧ mnStands l (cvKey l r).p (cvKey l r).q (cvKey l r).t (cvKey l r).v (lsFrom l r.p r.q r.t r.v) f = false
    · rw [if_pos h2, if_pos (show ((aheadT r.t : Nat) : Int) = 3 ∧ mnStands l (cvKey l r).p (cvKey l r).q (cvKey l r).t (cvKey l r).v (lsFrom l r.p r.q r.t r.v) f = false from ⟨h3.2 h2.1, h2.2⟩)]
    rw [if_neg h2, if_neg (show ¬ (((aheadT r.t : Nat) : Int) = 3 ∧ mnStands l (cvKey l r).p (cvKey l r).q (cvKey l r).t (cvKey l r).v (lsFrom l r.p r.q r.t r.v) f = false) from fun h => h2 ⟨h3.1 h.1, h.2⟩)]
  · have e0 : lsLen l r.p r.q r.t r.v = 0 := if_neg hl
    have e1 : mnAhead l r = 0 := by
      unfold mnAhead lsAt lsFrom
      rw [if_neg hl, if_neg hl]
      simp
    have hk : kyE l r.p r.q r.t r.v ≠ 0 := by
      intro h
      unfold kyE at h
      split at h
      · contradiction
      split at h
      · cases h
      · exact hl h
    have hw : wdU 0 = 1 := rfl
    have hs : mnStands l (cvKey l r).p (cvKey l r).q (cvKey l r).t (cvKey l r).v (lsFrom l r.p r.q r.t r.v) f = true := by
      have : (cvKey l r).t = 0 := by
        unfold cvKey kyT
        simp only
        rw [if_neg hk]
      unfold mnStands
      rw [this]
      rfl
    unfold rmList mnList
    rw [e0, e1, hs, hw, if_neg (by omega), if_neg (by simp), if_neg (by omega), if_neg (by omega)]
    rfl
theorem ahead_le (t : Int) : aheadT t ≤ 3 := by
  unfold aheadT
  (repeat' split) <;> omega
theorem from_le (l : List UInt8) (p q t v : Int) : lsFrom l p q t v ≤ l.length := by
  unfold lsFrom
  split
  · rename_i h
    have h3 := (ls_parts h).2.2.1
    have := tgt_rng h3
    omega
  · exact Nat.zero_le _
set_option maxRecDepth 100000 in
set_option maxHeartbeats 4000000 in
theorem rlist30_is (A : Option Addr) (n c : Nat) (p q t v f : Int) (r : Bool) (l : List UInt8) (w : World) (h : IsB w A n l) (hn : n ≤ 4294967296) (hf : isW f = true) (hr : rmList l ⟨p, q, t, v⟩ f = r) :
    Calls Tryz.prog 113 #[.slice A n c, .agg #[.int .i64 p, .int .i64 q, .int .i64 t, .int .i64 v], .int .i64 f] w fun e w' => e = .returned (.bool r) ∧ Below w.heap.size w w' := by
  have hlen := h.1
  have hf8 := isw_le hf
  have HF := Lib.hid hf
  have HI := Lib.hid (h.alloc (.cells #[.int .i64 p, .int .i64 q, .int .i64 t, .int .i64 v] 48))
  have HX := Lib.hid (Blk.new w 48 #[.int .i64 p, .int .i64 q, .int .i64 t, .int .i64 v])
  have HB := Lib.hid ((Below.refl w.heap.size w).alloc (Nat.le_refl _) (.cells #[.int .i64 p, .int .i64 q, .int .i64 t, .int .i64 v] 48))
  have hfrl := from_le l p q t v
  have hNl := lsLen_le l p q t v
  obtain ⟨fr, hfr⟩ : ∃ x : Int, (lsFrom l p q t v : Int) = x := ⟨_, rfl⟩
  obtain ⟨a, ha⟩ : ∃ x : Int, (lsAt l p q t v : Int) = x := ⟨_, rfl⟩
  obtain ⟨o, ho⟩ : ∃ x : Int, (lsTo l p q t v : Int) = x := ⟨_, rfl⟩
  obtain ⟨N, hN⟩ : ∃ N : Nat, lsLen l p q t v = N := ⟨_, rfl⟩
  obtain ⟨er, he⟩ : ∃ x, lsE l p q t v = x := ⟨_, rfl⟩
  obtain ⟨ah, hah⟩ : ∃ x, aheadT t = x := ⟨_, rfl⟩
  have hah3 := ahead_le t
  rw [hah] at hah3
  have hfr0 : 0 ≤ fr := by omega
  have hfr1 : fr ≤ 4294967296 := by omega
  have hN1 : N ≤ 4294967296 := by omega
  have hn2 : n ≤ 1099511627776 := by omega
  have HFR := Lib.hid hfr
  have HA := Lib.hid ha
  have HO := Lib.hid ho
  have HN := Lib.hid hN
  have HNI := Lib.hid (show (lsLen l p q t v : Int) = (N : Int) by rw [hN])
  have HEE := Lib.hid he
  have HAH := Lib.hid hah
  obtain ⟨b1, hb1⟩ : ∃ b, decide (0 < ah ∧ f < wdU N) = b := ⟨_, rfl⟩
  have hr1 : (if b1 = true then false else if t = 9 ∧ mnStands l (cvKey l ⟨p, q, t, v⟩).p (cvKey l ⟨p, q, t, v⟩).q (cvKey l ⟨p, q, t, v⟩).t (cvKey l ⟨p, q, t, v⟩).v fr f = false then false else (List.range N).all (rmElem l ⟨p, q, t, v⟩ f)) = r := by
    rw [← hr, ← hb1]
    unfold rmList
    simp only [hah, hN, hfr, decide_eq_true_eq]
  have HR := Lib.hid hr1
  have HB1 := Lib.hid hb1
  have HLN := Lib.hid hlen
  clear h hf hr hr1 hb1 hfrl hNl hfr ha ho hN he hah hlen
  have x0 := cell0 HX.out
  have x1 := cell1 HX.out
  have x2 := cell2 HX.out
  have x3 := cell3 HX.out
  go_enter Tryz.func113, Tryz.ntmps113
  go_wp2_with fail
  go_at_call 102
  refine (rspans_is A n c p q t v fr a o er l _ HI.out hn2 HFR.out HA.out HO.out HEE.out).mono ?_
  rintro e wn ⟨rfl, hb⟩
  replace HB := Lib.hid (pure_below HB.out hb)
  replace HI := Lib.hid (HI.out.pure hb)
  replace HX := Lib.hid (HX.out.pure hb)
  clear x0 x1 x2 x3 hb
  have x0 := cell0 HX.out
  have x1 := cell1 HX.out
  have x2 := cell2 HX.out
  have x3 := cell3 HX.out
  go_wp2_with fail
  go_at_call 79
  refine (rlen_is A n c p q t v N er l _ HI.out hn2 HNI.out HEE.out).mono ?_
  rintro e wn ⟨rfl, hb⟩
  replace HB := Lib.hid (pure_below HB.out hb)
  replace HI := Lib.hid (HI.out.pure hb)
  replace HX := Lib.hid (HX.out.pure hb)
  clear x0 x1 x2 x3 hb
  have x0 := cell0 HX.out
  have x1 := cell1 HX.out
  have x2 := cell2 HX.out
  have x3 := cell3 HX.out
  go_wp2_with fail
  go_at_call 103
  refine (ahead_is t ah _ HAH.out).mono ?_
  rintro e w3 ⟨rfl, rfl⟩
  go_upto_region 4 with fail
  go_cut [44] from 19 to 85 (fun u44 wx => ∃ wy, wy = wx ∧ u44 = .bool b1 ∧ Below wn.heap.size wn wx)
  case first =>
    by_cases h0 : 0 < ah
    · have t0 : decide (0 < ah) = true := decide_eq_true h0
      have hw2 : IntKind.u64.wrap (N : Int) = N := by rw [IntKind.wrap_u64]; omega
      have hnb : decide (wdU N ≤ f) = !b1 := by
        rw [← HB1.out]
        by_cases g : f < wdU N
        · rw [decide_eq_true (show 0 < ah ∧ f < wdU N from ⟨h0, g⟩), decide_eq_false (by omega)]; rfl
        · rw [decide_eq_false (show ¬ (0 < ah ∧ f < wdU N) from fun h => g h.2), decide_eq_true (by omega)]; rfl
      have HNB := Lib.hid hnb
      have HQ := Lib.hid (Below.refl wn.heap.size wn)
      clear hnb HB
      go_wp2_with fail
      go_at_call 76
      refine (rfits_at f N (!b1) _ HF.out (by omega) HNB.out).mono ?_
      rintro e w4 ⟨rfl, hb⟩
      replace HQ := Lib.hid hb
      clear hb
      go_wp2_with fail
      go_meet
      exact ⟨_, rfl, by simp, HQ.out⟩
    · have t0 : decide (0 < ah) = false := decide_eq_false h0
      have hb : b1 = false := by
        rw [← HB1.out]
        exact decide_eq_false fun h => h0 h.1
      subst hb
      go_wp2_with fail
      go_meet
      exact ⟨_, rfl, rfl, Below.refl _ _⟩
  case rest =>
  obtain ⟨w4, rfl, rfl, hb⟩ := hcut
  replace HB := Lib.hid (pure_below HB.out hb)
  replace HI := Lib.hid (HI.out.pure hb)
  replace HX := Lib.hid (HX.out.pure hb)
  clear x0 x1 x2 x3 hb
  have x0 := cell0 HX.out
  have x1 := cell1 HX.out
  have x2 := cell2 HX.out
  have x3 := cell3 HX.out
  cases b1 with
  | true =>
    have hr := HR.out
    rw [if_pos rfl] at hr
    subst hr
    go_wp2_with fail
    go_ret
    exact ⟨rfl, HB.out⟩
  | false =>
    have hr := HR.out
    rw [if_neg (by decide)] at hr
    replace HR := Lib.hid hr
    clear hr HB1
    go_upto_if 47 with fail
    go_cut [14, 15] from 19 to 85 (fun _ _ wx => ∃ wy, wy = wx ∧ (List.range N).all (rmElem l ⟨p, q, t, v⟩ f) = r ∧ Below w4.heap.size w4 wx)
    case first =>
      by_cases h9 : t = 9
      · have e9 : (t == 9) = true := beq_iff_eq.2 h9
        have H9 := Lib.hid h9
        clear h9
        obtain ⟨⟨kp, kq, kt, kv⟩, hkey⟩ : ∃ k, cvKey l ⟨p, q, t, v⟩ = k := ⟨_, rfl⟩
        have hr := HR.out
        rw [hkey] at hr
        simp only at hr
        have hk := hkey
        unfold cvKey at hk
        simp only [Rq.mk.injEq] at hk
        obtain ⟨hk1, hk2, hk3, hk4⟩ := hk
        obtain ⟨ke, hk5⟩ : ∃ a, kyE l p q t v = a := ⟨_, rfl⟩
        obtain ⟨st, hst⟩ : ∃ b, mnStands l kp kq kt kv fr f = b := ⟨_, rfl⟩
        rw [hst] at hr
        have HP := Lib.hid hk1
        have HQQ := Lib.hid hk2
        have HT := Lib.hid hk3
        have HV := Lib.hid hk4
        have HKE := Lib.hid hk5
        have HST := Lib.hid hst
        replace HR := Lib.hid hr
        have HB0 := HB
        replace HB := Lib.hid (Below.refl w4.heap.size w4)
        clear hr hk1 hk2 hk3 hk4 hk5 hst hkey
        go_wp2_with fail
        go_at_call 78
        refine (rfkeys_is A n c p q t v kp kq kt kv ke l _ HI.out hn2 HP.out HQQ.out HT.out HV.out HKE.out).mono ?_
        rintro e wn ⟨rfl, hb⟩
        replace HB := Lib.hid (pure_below HB.out hb)
        replace HI := Lib.hid (HI.out.pure hb)
        replace HX := Lib.hid (HX.out.pure hb)
        clear x0 x1 x2 x3 hb
        have x0 := cell0 HX.out
        have x1 := cell1 HX.out
        have x2 := cell2 HX.out
        have x3 := cell3 HX.out
        go_upto_region 8 with fail
        have hba : Below wn.heap.size wn (wn.alloc (.cells #[.int .i64 kp, .int .i64 kq, .int .i64 kt, .int .i64 kv] 48)) := (Below.refl _ _).alloc (Nat.le_refl _) _
        have HK := Lib.hid (Blk.new wn 48 #[.int .i64 kp, .int .i64 kq, .int .i64 kt, .int .i64 kv])
        replace HB := Lib.hid (pure_below HB.out hba)
        replace HI := Lib.hid (HI.out.pure hba)
        replace HX := Lib.hid (HX.out.pure hba)
        clear x0 x1 x2 x3 hba
        generalize wn.alloc (.cells #[.int .i64 kp, .int .i64 kq, .int .i64 kt, .int .i64 kv] 48) = wm at HB HI HX HK ⊢
        generalize wn.heap.size = bk at HK ⊢
        have x0 := cell0 HX.out
        have x1 := cell1 HX.out
        have x2 := cell2 HX.out
        have x3 := cell3 HX.out
        have k0 := cell0 HK.out
        have k1 := cell1 HK.out
        have k2 := cell2 HK.out
        have k3 := cell3 HK.out
        go_wp2_with fail
        go_at_call 39
        refine (rstands_is A n c kp kq kt kv fr f st l _ HI.out hn2 (by omega) HF.out HST.out).mono ?_
        rintro e w6 ⟨rfl, hb⟩
        replace HB := Lib.hid (pure_below HB.out hb)
        replace HI := Lib.hid (HI.out.pure hb)
        replace HX := Lib.hid (HX.out.pure hb)
        clear x0 x1 x2 x3 hb
        have x0 := cell0 HX.out
        have x1 := cell1 HX.out
        have x2 := cell2 HX.out
        have x3 := cell3 HX.out
        clear k0 k1 k2 k3 HK
        cases st with
        | true =>
          have hr := HR.out
          rw [if_neg (by simp)] at hr
          replace HR := Lib.hid hr
          clear hr
          go_wp2_with fail
          go_meet
          exact ⟨_, rfl, HR.out, HB.out⟩
        | false =>
          have hr := HR.out
          rw [if_pos ⟨H9.out, rfl⟩] at hr
          subst hr
          go_wp2_with fail
          go_ret
          exact ⟨rfl, pure_below HB0.out HB.out⟩
      · have e9 : (t == 9) = false := beq_eq_false_iff_ne.mpr h9
        have hr := HR.out
        rw [if_neg (fun h => h9 h.1)] at hr
        have HR := Lib.hid hr
        clear hr h9
        go_wp2_with fail
        go_meet
        exact ⟨_, rfl, HR.out, Below.refl _ _⟩
    case rest =>
    obtain ⟨w5, rfl, hr, hb⟩ := hcut
    replace HB := Lib.hid (pure_below HB.out hb)
    replace HI := Lib.hid (HI.out.pure hb)
    replace HX := Lib.hid (HX.out.pure hb)
    clear x0 x1 x2 x3 hb
    have x0 := cell0 HX.out
    have x1 := cell1 HX.out
    have x2 := cell2 HX.out
    have x3 := cell3 HX.out
    replace HR := Lib.hid hr
    clear hr
    obtain ⟨af, haf⟩ : ∃ x, (ah : Int) * f = x := ⟨_, rfl⟩
    have haf0 : 0 ≤ af := by rw [← haf]; exact Int.mul_nonneg (by omega) (by omega)
    have haf1 : af ≤ 24 := by
      have h1 : (ah : Int) * f ≤ 3 * f := Int.mul_le_mul_of_nonneg_right (by omega) (by omega)
      omega
    have HAF := Lib.hid haf
    have hw1 : IntKind.i64.wrap ((ah : Int) * f) = af := by rw [haf]; exact IntWalk.i64_in _ (by omega)
    have hw2 : IntKind.i64.wrap (fr + af) = fr + af := IntWalk.i64_in _ (by omega)
    clear haf
    clear x0 x1 x2 x3
    go_upto_region 11 with fail
    go_loopw [16] (fun u wr => ∃ k : Nat, u = .int .i64 k ∧ k ≤ N ∧ (∀ i, i < k → rmElem l ⟨p, q, t, v⟩ f i = true) ∧ Below w5.heap.size w5 wr) (fun u _ => N - (intOf u).toNat)
    case atStart => exact ⟨0, rfl, Nat.zero_le _, fun i hi => absurd hi (Nat.not_lt_zero _), Below.refl _ _⟩
    case round =>
      obtain ⟨k, rfl, hkN, hall, hb⟩ := hrel
      have HALL := Lib.hid hall
      replace HI := Lib.hid (HI.out.pure hb)
      replace HX := Lib.hid (HX.out.pure hb)
      have HB0 := HB
      replace HB := Lib.hid hb
      clear hall hb
      have x0 := cell0 HX.out
      have x1 := cell1 HX.out
      have x2 := cell2 HX.out
      have x3 := cell3 HX.out
      by_cases hk : k < N
      · obtain ⟨⟨kp, kq, kt, kv⟩, hat⟩ : ∃ y, cvAt l ⟨p, q, t, v⟩ k = y := ⟨_, rfl⟩
        have hk' := hat
        unfold cvAt at hk'
        simp only [Rq.mk.injEq] at hk'
        obtain ⟨hk1, hk2, hk3, hk4⟩ := hk'
        obtain ⟨ke, hk5⟩ : ∃ a, atE l p q t v k = a := ⟨_, rfl⟩
        obtain ⟨kf, hkf⟩ : ∃ x, (k : Int) * f = x := ⟨_, rfl⟩
        have hkf0 : 0 ≤ kf := by rw [← hkf]; exact Int.mul_nonneg (by omega) (by omega)
        have hkf1 : kf ≤ 34359738368 := by
          have h1 : (k : Int) * f ≤ k * 8 := Int.mul_le_mul_of_nonneg_left (by omega) (by omega)
          omega
        have hw3 : IntKind.i64.wrap ((k : Int) * f) = kf := by rw [hkf]; exact IntWalk.i64_in _ (by omega)
        have hw4 : IntKind.i64.wrap (fr + af + kf) = fr + af + kf := IntWalk.i64_in _ (by omega)
        have hwk : IntKind.i64.wrap ((k : Int) + 1) = (k : Int) + 1 := IntWalk.i64_in _ (by omega)
        obtain ⟨st, hst⟩ : ∃ b, mnStands l kp kq kt kv (fr + af + kf) f = b := ⟨_, rfl⟩
        have hel : rmElem l ⟨p, q, t, v⟩ f k = st := by
          unfold rmElem
          rw [hat]
          simp only [HFR.out, HAH.out, HAF.out, hkf]
          exact hst
        have HP := Lib.hid hk1
        have HQQ := Lib.hid hk2
        have HT := Lib.hid hk3
        have HV := Lib.hid hk4
        have HKE := Lib.hid hk5
        have HST := Lib.hid hst
        have HEL := Lib.hid hel
        clear hk1 hk2 hk3 hk4 hk5 hst hat hel hkf
        go_wp2_with fail
        go_at_call 80
        refine (rat_is A n c p q t v k kp kq kt kv ke l _ HI.out hn2 HP.out HQQ.out HT.out HV.out HKE.out).mono ?_
        rintro e wn ⟨rfl, hb⟩
        replace HB := Lib.hid (pure_below HB.out hb)
        replace HI := Lib.hid (HI.out.pure hb)
        replace HX := Lib.hid (HX.out.pure hb)
        clear x0 x1 x2 x3 hb
        have x0 := cell0 HX.out
        have x1 := cell1 HX.out
        have x2 := cell2 HX.out
        have x3 := cell3 HX.out
        go_upto_region 14 with fail
        have hba : Below wn.heap.size wn (wn.alloc (.cells #[.int .i64 kp, .int .i64 kq, .int .i64 kt, .int .i64 kv] 48)) := (Below.refl _ _).alloc (Nat.le_refl _) _
        have HK := Lib.hid (Blk.new wn 48 #[.int .i64 kp, .int .i64 kq, .int .i64 kt, .int .i64 kv])
        replace HB := Lib.hid (pure_below HB.out hba)
        replace HI := Lib.hid (HI.out.pure hba)
        replace HX := Lib.hid (HX.out.pure hba)
        clear x0 x1 x2 x3 hba
        generalize wn.alloc (.cells #[.int .i64 kp, .int .i64 kq, .int .i64 kt, .int .i64 kv] 48) = wm at HB HI HX HK ⊢
        generalize wn.heap.size = bk at HK ⊢
        have x0 := cell0 HX.out
        have x1 := cell1 HX.out
        have x2 := cell2 HX.out
        have x3 := cell3 HX.out
        have k0 := cell0 HK.out
        have k1 := cell1 HK.out
        have k2 := cell2 HK.out
        have k3 := cell3 HK.out
        go_wp2_with fail
        go_at_call 39
        refine (rstands_is A n c kp kq kt kv (fr + af + kf) f st l _ HI.out hn2 (by omega) HF.out HST.out).mono ?_
        rintro e w6 ⟨rfl, hb⟩
        replace HB := Lib.hid (pure_below HB.out hb)
        replace HI := Lib.hid (HI.out.pure hb)
        replace HX := Lib.hid (HX.out.pure hb)
        clear x0 x1 x2 x3 hb
        have x0 := cell0 HX.out
        have x1 := cell1 HX.out
        have x2 := cell2 HX.out
        have x3 := cell3 HX.out
        clear k0 k1 k2 k3 HK
        cases st with
        | true =>
          go_wp2_with fail
          go_roundw
          case rel =>
            refine ⟨k + 1, by go_num, hk, fun i hi => ?_, HB.out⟩
            by_cases hik : i < k
            · exact HALL.out i hik
            · have : i = k := by omega
              rw [this]
              exact HEL.out
          case measure => simp [intOf]; omega
        | false =>
          have hr : r = false := by
            rw [← HR.out]
            apply Bool.eq_false_iff.2
            intro h
            have h1 := List.all_eq_true.1 h k (List.mem_range.2 hk)
            rw [HEL.out] at h1
            cases h1
          subst hr
          go_wp2_with fail
          go_ret
          exact ⟨rfl, pure_below HB0.out HB.out⟩
      · have hkk : k = N := by omega
        have hr : r = true := by
          rw [← HR.out, List.all_eq_true]
          intro i hi
          exact HALL.out i (by have := List.mem_range.1 hi; omega)
        subst hr
        have hd : decide (k < N) = false := decide_eq_false (by omega)
        clear hk hkk x0 x1 x2 x3
        go_wp2_with fail
        go_ret
        exact ⟨rfl, pure_below HB0.out HB.out⟩
end Go.Proofs.YtejalfjeihlpeaaGreat
