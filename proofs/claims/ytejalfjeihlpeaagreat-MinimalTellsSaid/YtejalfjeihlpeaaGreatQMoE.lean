/-
  Package accordionref30: Check; the property MinimalTells.
-/
import Derived.Test.YtejalfjeihlpeaaGreatQMoD
import Derived.Test.YtejalfjeihlpeaaGreatQRvH
namespace Go.Proofs.YtejalfjeihlpeaaGreat
open Go.RowKit Go.Acc
theorem rocomes_at (bw : Nat) (B0 B2 : Nat) (A : Option Addr) (n c : Nat) (l : List UInt8) (x p q t v : Int) (res : Except Int (List P3)) (w : World) (h : RoW ⟨B0, B2, bw, A, n, c, l⟩ none [] x w) (hx : x < 0) (hok : MnOk ⟨p, q, t, v⟩) (hr : mnRun l ⟨p, q, t, v⟩ = res) :
    Calls Tryz.prog 40 #[.pointer (some ⟨bw, 0, none⟩), .agg #[.int .i64 p, .int .i64 q, .int .i64 t, .int .i64 v]] w fun e w' => e = .returned (.tuple #[]) ∧ RoOut ⟨B0, B2, bw, A, n, c, l⟩ none x w w' res :=
  ro_all ⟨B0, B2, bw, A, n, c, l⟩ (mnFuel l) none [] x p q t v res w h hx (by
    unfold LenOk mnLeft
    rw [List.length_nil, Nat.zero_add, ← mnall_len]
    exact List.countP_le_length) hok (by rw [← hr]; exact mnrun_is hok)
set_option maxRecDepth 100000 in
set_option maxHeartbeats 1000000 in
theorem rcheck_spec (A : Option Addr) (n c : Nat) (fuel : Int) (l : List UInt8) (w : World) (hl : IsB w A n l) (hc : n ≤ c) (hn : n ≤ 1000000) (hf : fuel ≤ 100000000) :
    Calls Tryz.prog 15 #[.slice A n c, .int .i64 fuel] w fun e w' => e = .returned (.tuple #[.int .i64 (mnCheck l fuel).1, .int .i64 (mnCheck l fuel).2]) ∧ Below w.heap.size w w' := by
  have hlen := hl.1
  have HI := Lib.hid hl
  have hP := rparts_spec A n c fuel l w hl hc (by omega) hf
  clear hl
  by_cases he : cvPartsE l fuel = 0
  · have hr := root_of_parts he
    obtain ⟨hok, hrq⟩ := mnok_root hr
    obtain ⟨⟨p, q, t, v⟩, hrt⟩ : ∃ r, cvRoot l = r := ⟨_, rfl⟩
    rw [hrt] at hok hrq
    obtain ⟨res, hres⟩ : ∃ res, mnRun l ⟨p, q, t, v⟩ = res := ⟨_, rfl⟩
    obtain ⟨st, hst⟩ : ∃ b, mnStands l p q t v p (q / 2) = b := ⟨_, rfl⟩
    have hck : mnCheck l fuel = if 1 < q ∧ st = true then (p, 10) else mnRes res := by
      unfold mnCheck
      rw [if_neg (by rw [he]; decide), hrt, hres]
      simp only [hst]
    have hqw : isW q = true := by
      have hx : ∃ x, l.getD (l.length - 1) 0 = x := ⟨_, rfl⟩
      obtain ⟨x, hx⟩ := hx
      cases hw : isW (x.toNat : Int) with
      | false => rw [rootE_2 hx hw] at hr; cases hr
      | true =>
        have h1 := rootR_ok hx rfl hr
        unfold cvRoot at hrt
        rw [h1] at hrt
        injection hrt with _ h2
        rw [← h2]
        exact hw
    have HCK := Lib.hid hck
    have HOK := Lib.hid hok
    have HRES := Lib.hid hres
    have HST := Lib.hid hst
    have HQW := Lib.hid hqw
    have hq : 1 ≤ q ∧ q ≤ 8 := ⟨hrq.2.1, hrq.2.2.1⟩
    have h3 : 3 ≤ n := by have := (root_ok hr).2; omega
    have hp : 0 ≤ p ∧ p ≤ n := by have h1 := hrq.1; have h2 := hrq.2.2.2; simp only at h1 h2; omega
    have hR := fun W (h : IsB W A n l) => rroot_spec A n c l W h (by omega)
    have hrr : (rootR l).1 = p ∧ (rootR l).2.1 = q ∧ (rootR l).2.2.1 = t ∧ (rootR l).2.2.2 = v := by
      unfold cvRoot at hrt
      injection hrt with h1 h2 h3 h4
      exact ⟨h1, h2, h3, h4⟩
    rw [hr, hrr.1, hrr.2.1, hrr.2.2.1, hrr.2.2.2] at hR
    rw [he] at hP
    have HRT := Lib.hid hR
    have HP := Lib.hid hP
    clear he hr hok hrq hrt hres hst hck hR hP hrr hqw
    go_enter Tryz.func15, Tryz.ntmps15
    go_wp2_with fail
    go_at_call 9
    refine HP.out.mono ?_
    rintro e w1 ⟨A', k, c', rfl, hO, hb⟩
    have HB := Lib.hid hb
    replace HI := Lib.hid (HI.out.pure hb)
    clear hO hb HP
    go_wp2_with fail
    go_at_call 32
    refine (HRT.out _ HI.out).mono ?_
    rintro e w2 ⟨rfl, hb⟩
    replace HB := Lib.hid (pure_below HB.out hb)
    replace HI := Lib.hid (HI.out.pure hb)
    clear hb HRT
    go_upto_region 5 with fail
    have HX := Lib.hid (Blk.new w2 48 #[.int .i64 p, .int .i64 q, .int .i64 t, .int .i64 v])
    have hba : Below w2.heap.size w2 (w2.alloc (.cells #[.int .i64 p, .int .i64 q, .int .i64 t, .int .i64 v] 48)) := (Below.refl _ _).alloc (Nat.le_refl _) _
    replace HB := Lib.hid (pure_below HB.out hba)
    replace HI := Lib.hid (HI.out.pure hba)
    generalize w2.alloc (.cells #[.int .i64 p, .int .i64 q, .int .i64 t, .int .i64 v] 48) = W at HB HI HX ⊢
    generalize w2.heap.size = bR at HX ⊢
    clear hba
    have x0 := cell0 HX.out; have x1 := cell1 HX.out; have x2 := cell2 HX.out; have x3 := cell3 HX.out
    go_cut [37] from 11 to 54 (fun u29 wx => ∃ wy, wy = wx ∧ u29 = .bool (decide (1 < q ∧ st = true)) ∧ Below W.heap.size W wx)
    case first =>
      by_cases hq1 : 1 < q
      · have hd1 : decide (1 < q) = true := decide_eq_true hq1
        have hdv : IntKind.i64.wrap (q.tdiv 2) = q / 2 := by rw [Int.tdiv_eq_ediv_of_nonneg (by omega)]; exact IntWalk.i64_in _ (by omega)
        have HSF := Lib.hid (show decide (1 < q ∧ st = true) = st by cases st <;> simp [hq1])
        have HW2 := Lib.hid (show isW (q / 2) = true by rcases isW_iff.1 HQW.out with h | h | h | h <;> subst h <;> first | (exfalso; omega) | decide)
        have HQ := Lib.hid (Below.refl W.heap.size W)
        clear HB
        go_wp2_with (go_at_call 39; (with_reducible refine (rstands_is A n c p q t v p (q / 2) st l _ HI.out (by omega) (by omega) HW2.out HST.out).mono ?_); rintro e w8 ⟨rfl, hb⟩; replace HQ := Lib.hid hb; clear x0 x1 x2 x3; clear hb)
        go_meet
        rw [HSF.out]
        exact ⟨_, rfl, rfl, HQ.out⟩
      · have hd1 : decide (1 < q) = false := decide_eq_false hq1
        have HSF := Lib.hid (show decide (1 < q ∧ st = true) = false from decide_eq_false fun h => hq1 h.1)
        go_wp2_with fail
        go_meet
        rw [HSF.out]
        exact ⟨_, rfl, rfl, Below.refl _ _⟩
    case rest =>
    obtain ⟨w8, rfl, rfl, hb⟩ := hcut
    replace HB := Lib.hid (pure_below HB.out hb)
    replace HX := Lib.hid (HX.out.pure hb)
    replace HI := Lib.hid (HI.out.pure hb)
    clear x0 x1 x2 x3
    clear hb
    have x0 := cell0 HX.out; have x1 := cell1 HX.out; have x2 := cell2 HX.out; have x3 := cell3 HX.out
    by_cases hc1 : 1 < q ∧ st = true
    · have hd : decide (1 < q ∧ st = true) = true := decide_eq_true hc1
      rw [hd]
      have hr := HCK.out
      rw [if_pos hc1] at hr
      have HR := Lib.hid hr
      clear hr hc1 hd
      go_wp2_with fail
      go_ret2
      exact ⟨ret_check HR.out, HB.out⟩
    · have hd : decide (1 < q ∧ st = true) = false := decide_eq_false hc1
      rw [hd]
      have hr := HCK.out
      rw [if_neg hc1] at hr
      have HR := Lib.hid hr
      clear hr hc1 hd
      go_upto_region 8 with fail
      have hba : Below w8.heap.size w8 (w8.alloc (.cells #[.slice A n c, .slice none 0 0, .int .i64 (-1)] 77)) := (Below.refl _ _).alloc (Nat.le_refl _) _
      have hC : RoW ⟨w8.heap.size, w8.heap.size + 1, w8.heap.size, A, n, c, l⟩ none [] (-1) (w8.alloc (.cells #[.slice A n c, .slice none 0 0, .int .i64 (-1)] 77)) := by
        refine ⟨⟨fun ad had => ?_, Nat.le_refl _, Nat.lt_succ_self _, hc, hn⟩, HI.out.pure hba, ⟨none, 0, 0, Blk.new _ _ _, Own.nil _ _, rfl⟩, by simp⟩
        obtain ⟨b', off, e, hlt⟩ := HI.out.some_ bc_len (by omega) (by omega)
        simp only at had
        rw [e] at had
        injection had with had
        subst had
        exact hlt
      have HCM := Lib.hid (rocomes_at w8.heap.size w8.heap.size (w8.heap.size + 1) A n c l (-1) p q t v res _ hC (by decide) HOK.out HRES.out)
      have HC := Lib.hid hC
      have HWS := Lib.hid HB.out.size
      replace HB := Lib.hid (pure_below HB.out hba)
      replace HX := Lib.hid (HX.out.pure hba)
      clear x0 x1 x2 x3
      clear hba hC HI
      generalize w8.alloc (.cells #[.slice A n c, .slice none 0 0, .int .i64 (-1)] 77) = w9 at HB HX HCM HC ⊢
      generalize w8.heap.size = bw at HCM HC HWS ⊢
      have x0 := cell0 HX.out; have x1 := cell1 HX.out; have x2 := cell2 HX.out; have x3 := cell3 HX.out
      go_wp2_with fail
      go_at_call 40
      refine HCM.out.mono ?_
      cases res with
      | error a =>
        rintro e w10 ⟨rfl, ha0, g2, H2, hC2, hT2⟩
        have hb : Below w.heap.size w w10 := HB.out.trans ((hT2.belowB HC.out).mono HWS.out)
        have HC2 := Lib.hid hC2
        replace HB := Lib.hid hb
        clear x0 x1 x2 x3
        clear hb hC2 hT2 HX HCM HC
        have c2 := HC2.out.c2
        simp only at c2
        go_wp2_with fail
        go_ret2
        exact ⟨ret_check HR.out, HB.out⟩
      | ok had =>
        rintro e w10 ⟨rfl, g2, H2, _, _, hC2, hT2⟩
        have hb : Below w.heap.size w w10 := HB.out.trans ((hT2.belowB HC.out).mono HWS.out)
        have HC2 := Lib.hid hC2
        replace HB := Lib.hid hb
        clear x0 x1 x2 x3
        clear hb hC2 hT2 HX HCM HC
        have c2 := HC2.out.c2
        simp only at c2
        go_wp2_with fail
        go_ret2
        exact ⟨ret_check HR.out, HB.out⟩
  · have hne : (cvPartsE l fuel != 0) = true := by simpa using he
    have hck : mnCheck l fuel = (0, cvPartsE l fuel) := by unfold mnCheck; rw [if_pos he]
    have HCK := Lib.hid hck
    have HP := Lib.hid hP
    clear hck he hP
    go_enter Tryz.func15, Tryz.ntmps15
    go_wp2_with fail
    go_at_call 9
    refine HP.out.mono ?_
    rintro e w1 ⟨A', k, c', rfl, hO, hb⟩
    have HB := Lib.hid hb
    clear hb hO
    go_wp2_with fail
    go_ret2
    exact ⟨ret_check HCK.out, HB.out⟩
theorem rcheck_is (A : Option Addr) (n c : Nat) (fuel a e0 : Int) (l : List UInt8) (w : World) (hl : IsB w A n l) (hc : n ≤ c) (hn : n ≤ 1000000) (hf : fuel ≤ 100000000) (h : mnCheck l fuel = (a, e0)) :
    Calls Tryz.prog 15 #[.slice A n c, .int .i64 fuel] w fun e w' => e = .returned (.tuple #[.int .i64 a, .int .i64 e0]) ∧ Below w.heap.size w w' := by
  have := rcheck_spec A n c fuel l w hl hc hn hf
  rw [h] at this
  exact this
set_option maxRecDepth 100000 in
set_option maxHeartbeats 1000000 in
theorem mintells_spec (A : Option Addr) (n c : Nat) (f : Int) (l : List UInt8) (w : World) (h : IsB w A n l) (hc : n ≤ c) :
    Calls Tryz.prog 4 #[.slice A n c, .int .i64 f] w fun e w' => e = .returned (.bool true) ∧ Below w.heap.size w w' := by
  have HM := Lib.hid h
  clear h
  go_enter Tryz.func4, Tryz.ntmps4
  go_wp2_with fail
  go_at_call 13
  refine (bytes30_spec A n c l _ HM.out hc).mono ?_
  rintro e w1 ⟨A1, n1, c1, rfl, hn1, hO1, hb1⟩
  have hc1 := hO1.cap.1
  have HO := Lib.hid hO1.is
  have HB := Lib.hid hb1
  replace HM := Lib.hid (HM.out.pure hb1)
  clear hO1 hb1
  obtain ⟨g, hg⟩ : ∃ z, min f 2000 = z := ⟨_, rfl⟩
  have hg2 : g ≤ 100000000 := by omega
  have HG := Lib.hid hg
  obtain ⟨⟨a, er⟩, hk⟩ : ∃ z, mnCheck (l.take 1500) g = z := ⟨_, rfl⟩
  have HK := Lib.hid hk
  clear hg hk
  go_wp2_with fail
  go_at_call 14
  rw [HG.out]
  refine (check_is A1 n1 c1 g a er _ w1 HO.out hc1 (by omega) hg2 HK.out).mono ?_
  rintro e w2 ⟨rfl, hb2⟩
  replace HO := Lib.hid (HO.out.pure hb2)
  replace HB := Lib.hid (pure_below HB.out hb2)
  replace HM := Lib.hid (HM.out.pure hb2)
  clear hb2
  go_wp2_with fail
  go_at_call 15
  refine (rcheck_is A1 n1 c1 g a er _ w2 HO.out hc1 (by omega) hg2 HK.out).mono ?_
  rintro e w3 ⟨rfl, hb3⟩
  replace HO := Lib.hid (HO.out.pure hb3)
  replace HB := Lib.hid (pure_below HB.out hb3)
  replace HM := Lib.hid (HM.out.pure hb3)
  clear hb3 HK HG
  go_wp2_with fail
  go_at_call 13
  refine (bytes30_spec A n c l _ HM.out hc).mono ?_
  rintro e w5 ⟨A5, n5, c5, rfl, hn5, hO5, hb5⟩
  have HO5 := Lib.hid hO5.is
  replace HO := Lib.hid (HO.out.pure hb5)
  replace HB := Lib.hid (pure_below HB.out hb5)
  clear hO5 hb5
  go_wp2_with fail
  go_at_call 11
  refine (eqb_spec A1 A5 n1 n5 c1 c5 _ _ _ HO.out HO5.out).mono ?_
  rw [eqB_self]
  rintro e w6 ⟨rfl, rfl⟩
  go_wp2_with fail
  go_at_call 16
  refine (mnworks_spec _).mono ?_
  rintro e w7 ⟨rfl, hb⟩
  replace HB := Lib.hid (pure_below HB.out hb)
  clear hb
  go_wp2
  go_ret
  exact ⟨rfl, HB.out⟩
end Go.Proofs.YtejalfjeihlpeaaGreat
