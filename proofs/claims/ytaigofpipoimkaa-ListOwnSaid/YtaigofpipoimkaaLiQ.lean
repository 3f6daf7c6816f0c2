/-
  Package list: the property ListOwn.
-/
import Derived.Test.YtaigofpipoimkaaLiM
import Derived.Test.YtaigofpipoimkaaLiP
import Derived.Test.YtaigofpipoimkaaCopy
import Derived.Deep.DeepCutAuto
import Derived.StillTailTactics
namespace Go.Proofs.Ytaigofpipoimkaa
open Go.RowKit Go.Acc
set_option maxRecDepth 100000 in
set_option maxHeartbeats 4000000 in
theorem listown_spec (A0 A1 : Option Addr) (n0 c0 n1 c1 : Nat) (p q t v : Int) (l0 l1 : List UInt8) (w : World) (h0 : IsB w A0 n0 l0) (h1 : IsB w A1 n1 l1) (hc0 : n0 ≤ c0) (hc1 : n1 ≤ c1) :
    Calls Try.prog 9 #[.agg #[.slice A0 n0 c0, .slice A1 n1 c1], .agg #[.int .i64 p, .int .i64 q, .int .i64 t, .int .i64 v]] w fun e w' => e = .returned (.bool true) ∧ Below w.heap.size w w' := by
  obtain ⟨X, hX⟩ : ∃ X : Nat, (if n1 < n0 then (n1 : Int) else (n0 : Int)) = (X : Int) := by
    split
    · exact ⟨n1, rfl⟩
    · exact ⟨n0, rfl⟩
  obtain ⟨M, hM⟩ : ∃ M : Nat, (if (600 : Int) < (X : Int) then (600 : Int) else (X : Int)) = (M : Int) := by
    split
    · exact ⟨600, rfl⟩
    · exact ⟨X, rfl⟩
  have hM0 : M ≤ n0 ∧ M ≤ n1 ∧ M ≤ 600 := by
    split at hM <;> split at hX <;> omega
  have hq0 := cut_run A0 n0 c0 M (by omega)
  have hq1 := cut_run A1 n1 c1 M (by omega)
  have HM := Lib.hid hM0
  have HL0 := Lib.hid ((((h0.take bc_len hM0.1).alloc (.cells #[.slice A0 n0 c0, .slice A1 n1 c1] 63))).alloc (.cells #[.int .i64 p, .int .i64 q, .int .i64 t, .int .i64 v] 23))
  have HL1 := Lib.hid ((((h1.take bc_len hM0.2.1).alloc (.cells #[.slice A0 n0 c0, .slice A1 n1 c1] 63))).alloc (.cells #[.int .i64 p, .int .i64 q, .int .i64 t, .int .i64 v] 23))
  have HB := Lib.hid (((Below.refl w.heap.size w).alloc (Nat.le_refl _) (.cells #[.slice A0 n0 c0, .slice A1 n1 c1] 63)).alloc (by simp) (.cells #[.int .i64 p, .int .i64 q, .int .i64 t, .int .i64 v] 23))
  have HX := Lib.hid (Blk.new_ (w := w.alloc (.cells #[.slice A0 n0 c0, .slice A1 n1 c1] 63)) (g := w.heap.size + 1) (by simp) 23 #[.int .i64 p, .int .i64 q, .int .i64 t, .int .i64 v])
  have HY := Lib.hid ((Blk.new w 63 #[.slice A0 n0 c0, .slice A1 n1 c1]).alloc (.cells #[.int .i64 p, .int .i64 q, .int .i64 t, .int .i64 v] 23))
  have hl0 := HL0.out.1
  have hl1 := HL1.out.1
  generalize l0.take M = l at HL0 hl0
  generalize l1.take M = m at HL1 hl1
  have HLN := Lib.hid hl0
  have HMN := Lib.hid hl1
  have hxl : w.heap.size + 1 < ((w.alloc (.cells #[.slice A0 n0 c0, .slice A1 n1 c1] 63)).alloc (.cells #[.int .i64 p, .int .i64 q, .int .i64 t, .int .i64 v] 23)).heap.size := HX.out.lt
  have hxl2 : w.heap.size ≤ ((w.alloc (.cells #[.slice A0 n0 c0, .slice A1 n1 c1] 63)).alloc (.cells #[.int .i64 p, .int .i64 q, .int .i64 t, .int .i64 v] 23)).heap.size := HB.out.size
  have y0 : ((w.alloc (.cells #[.slice A0 n0 c0, .slice A1 n1 c1] 63)).alloc (.cells #[.int .i64 p, .int .i64 q, .int .i64 t, .int .i64 v] 23)).cell? ⟨w.heap.size, 0, none⟩ = some (.slice A0 n0 c0) := HY.out.cell 0
  have y1 : ((w.alloc (.cells #[.slice A0 n0 c0, .slice A1 n1 c1] 63)).alloc (.cells #[.int .i64 p, .int .i64 q, .int .i64 t, .int .i64 v] 23)).cell? ⟨w.heap.size, 1, none⟩ = some (.slice A1 n1 c1) := HY.out.cell 1
  clear h0 h1 hM0 hl0 hl1
  go_enter Try.func9, Try.ntmps9
  go_wp2_with fail
  generalize (w.alloc (.cells #[.slice A0 n0 c0, .slice A1 n1 c1] 63)).alloc (.cells #[.int .i64 p, .int .i64 q, .int .i64 t, .int .i64 v] 23) = wB at HL0 HL1 HB HX HY y0 y1 hxl hxl2 ⊢
  go_upto_region 2 with fail
  go_cut [6, 7] (fun u6 u7 wx => Two wB.heap.size M l m u6 u7 wx ∧ Below wB.heap.size wB wx)
  case first =>
    go_region_held3 (fun w' => w'.cell? ⟨w.heap.size, 0, none⟩ = some (.slice A0 n0 c0) ∧ w'.cell? ⟨w.heap.size, 1, none⟩ = some (.slice A1 n1 c1)) (first | assumption | exact ⟨y0, y1⟩ | exact ⟨cell_pure HB5.out y0, cell_pure HB5.out y1⟩)
      (first
        | (go_at_call 15; (with_reducible refine (copyb_spec A0 M c0 l _ (isl_drew HL0.out) (by have := HM.out; omega)).mono ?_); rintro e w5 ⟨A5, n5, c5, rfl, hO5, hb5⟩; have HO5 := Lib.hid hO5; have HB5 := Lib.hid hb5; have HL1 := Lib.hid ((isl_drew HL1.out).pure hb5); have y0 := cell_pure hb5 (p := ⟨w.heap.size, 0, none⟩) (u := .slice A0 n0 c0) y0; have y1 := cell_pure hb5 (p := ⟨w.heap.size, 1, none⟩) (u := .slice A1 n1 c1) y1; clear hO5 hb5)
        | (go_at_call 15; (with_reducible refine (copyb_spec A1 M c1 m _ HL1.out (by have := HM.out; omega)).mono ?_); rintro e w6 ⟨A6, n6, c6, rfl, hO6, hb6⟩; have HO6 := Lib.hid hO6; have HB6 := Lib.hid hb6; have y0 := cell_pure hb6 (p := ⟨w.heap.size, 0, none⟩) (u := .slice A0 n0 c0) y0; have y1 := cell_pure hb6 (p := ⟨w.heap.size, 1, none⟩) (u := .slice A1 n1 c1) y1; clear hO6 hb6))
    go_wp2_with fail
    go_meet
    have hs := HB5.out.size
    exact ⟨two_1 (HO5.out.pure HB6.out) HO6.out (fun ad e => (HO5.out.addr ad e).2.2) HLN.out HMN.out (Nat.le_refl _) hs, pure_below (Below.refl _ _).drew (pure_trans HB5.out HB6.out)⟩
  case rest =>
    obtain ⟨⟨A, c, B, d, rfl, rfl, hO, hP, hne⟩, hb⟩ := hcut
    replace HB := Lib.hid (pure_below HB.out hb)
    replace HX := Lib.hid (HX.out.pure hb)
    have HO := Lib.hid hO
    have HP := Lib.hid hP
    have HNE := Lib.hid hne
    have hce := hO.cap.1
    have hde := hP.cap.1
    have hm6 := HM.out.2.2
    have x0 := cell0 HX.out; have x1 := cell1 HX.out; have x2 := cell2 HX.out; have x3 := cell3 HX.out
    clear hO hP hne hb HL0 HL1 y0 y1 HY hX hM hq0 hq1
    have hlen := HLN.out
    subst hlen
    have hM40 : l.length ≤ 1099511627776 := by omega
    obtain ⟨nf, hnf⟩ : ∃ x, lsFrom l p q t v = x := ⟨_, rfl⟩
    obtain ⟨na, hna⟩ : ∃ x, lsAt l p q t v = x := ⟨_, rfl⟩
    obtain ⟨nt, hnt⟩ : ∃ x, lsTo l p q t v = x := ⟨_, rfl⟩
    obtain ⟨nl, hnl⟩ : ∃ x, lsLen l p q t v = x := ⟨_, rfl⟩
    obtain ⟨ne, hne⟩ : ∃ x, lsE l p q t v = x := ⟨_, rfl⟩
    have HNF := Lib.hid (show (lsFrom l p q t v : Int) = nf by rw [hnf])
    have HNA := Lib.hid (show (lsAt l p q t v : Int) = na by rw [hna])
    have HNT := Lib.hid (show (lsTo l p q t v : Int) = nt by rw [hnt])
    have HNL := Lib.hid (show (lsLen l p q t v : Int) = nl by rw [hnl])
    have HNE2 := Lib.hid hne
    by_cases he : ne = 0
    · subst he
      obtain ⟨_, _, hW, _, hp0, hq0', hpq, hQ, _⟩ := ls_ok hne
      have hV := isW_iff.1 hW
      have hQ := isW_iff.1 hQ
      have hag : ∀ m : List UInt8, m.length = l.length → Agree l m p.toNat (p + q).toNat → Agree l m nf nt → OwnLs l m p q t v := by
        intro m a b c'
        rw [← hnf, ← hnt] at c'
        exact own_ls hne a b c'
      have hin : nf ≤ nt ∧ nt ≤ l.length ∧ nl ≤ l.length := by
        have h9 := lslen_le l p q t v
        obtain ⟨V, rfl⟩ : ∃ V : Nat, v = V := ⟨v.toNat, by omega⟩
        obtain ⟨e1, e2, e3, _⟩ := ls_within hne
        rw [hnf] at e1
        rw [hnt] at e2 e3
        rw [hnl] at h9
        omega
      obtain ⟨P, rfl⟩ : ∃ P : Nat, p = P := ⟨p.toNat, by omega⟩
      obtain ⟨R, rfl⟩ : ∃ R : Nat, q = R := ⟨q.toNat, by omega⟩
      have hle : nt ≤ l.length := hin.2.1
      have hft : nf ≤ nt := hin.1
      have hnl6 : nl ≤ 600 := by omega
      have hnll := hin.2.2
      have p2 : P + R ≤ l.length := by omega
      have r1 : 1 ≤ R := by omega
      have r8 : R ≤ 8 := by omega
      have d1 : decide (nt < nf) = false := decide_eq_false (by omega)
      have d2 : decide (l.length < nt) = false := decide_eq_false (by omega)
      have d3 : decide (l.length < R) = false := decide_eq_false (by omega)
      have d4 : decide ((l.length : Int) - R < P) = false := decide_eq_false (by omega)
      have HAG := Lib.hid hag
      have HNLN := Lib.hid hnl
      clear hag hin hW hV hQ hp0 hq0' hpq hnf hna hnt hnl hne
      go_wp2_with fail
      go_at_call 33
      refine (lspan_is A l.length c P R t v nf na nt 0 l _ HO.out.is hce hM40 HNF.out HNA.out HNT.out HNE2.out).mono ?_
      rintro e wn ⟨rfl, hb⟩
      clear x0 x1 x2 x3; replace HB := Lib.hid (pure_below HB.out hb); replace HX := Lib.hid (HX.out.pure hb); replace HO := Lib.hid (HO.out.pure hb); replace HP := Lib.hid (HP.out.pure hb); clear hb; have x0 := cell0 HX.out; have x1 := cell1 HX.out; have x2 := cell2 HX.out; have x3 := cell3 HX.out
      obtain ⟨Y1, hy1, hy2, _⟩ := cut_any2 A l.length c nf nt hft hle hce
      obtain ⟨Y2, hz1, _, hz3⟩ := cut_any2 B l.length d nf nt hft hle hde
      have HS := Lib.hid (hy2 _ _ HO.out.is)
      have HZ3 := Lib.hid hz3
      have hlm := HMN.out
      have hxx : nf + (nt - nf) ≤ l.length := by omega
      clear hy2 hz3
      go_wp2_with fail
      go_still_tail 8, (by kernel_rfl)
      refine wpl_copyB rfl (.tmp 80) (.tmp 84) rfl Y2 Y1 (nt - nf) _ _ rfl rfl wB.heap.size B l.length d nf m ((l.drop nf).take (nt - nf)) (own_drew HP.out) HZ3.out hxx (isl_drew HS.out) ?_
      intro w4 hO4 hf4
      rw [show m.take nf ++ (l.drop nf).take (nt - nf) ++ m.drop (nf + (nt - nf)) = over l m nf nt by rw [show over l m nf nt = m.take nf ++ (l.drop nf).take (nt - nf) ++ m.drop nt from rfl, show nf + (nt - nf) = nt by omega]] at hO4
      clear x0 x1 x2 x3; replace HB := Lib.hid (below_fr HB.out.drew hf4 (by rintro j ⟨ad, e, rfl⟩; have := (HP.out.addr ad e).2.1; omega)); replace HX := Lib.hid (HX.out.drew.fr hf4 (by rintro ⟨ad, e, h⟩; have := (HP.out.addr ad e).2.1; omega)); replace HO := Lib.hid ((own_drew HO.out).fr hf4 (fun ad e ⟨ad', e', h⟩ => HNE.out ad ad' e e' h)); replace HP := Lib.hid hO4; clear hf4 hO4; have x0 := cell0 HX.out; have x1 := cell1 HX.out; have x2 := cell2 HX.out; have x3 := cell3 HX.out
      clear hy1 hz1 HS HZ3
      obtain ⟨Y3, hy1, hy2, _⟩ := cut_any2 A l.length c P (P + R) (by omega) p2 hce
      obtain ⟨Y4, hz1, _, hz3⟩ := cut_any2 B l.length d P (P + R) (by omega) p2 hde
      have HS := Lib.hid (hy2 _ _ HO.out.is)
      have HZ3 := Lib.hid hz3
      rw [Int.natCast_add, show P + R - P = R by omega] at hy1 hz1
      rw [show P + R - P = R by omega] at HS HZ3
      clear hy2 hz3
      go_wp2_with fail
      have hw1 := IntWalk.i64_in ((P : Int) + (R : Int)) (by omega)
      have hw2 := wrap64_in ((P : Int) + (R : Int)) (by omega)
      go_still_tail 18, (by kernel_rfl)
      clear hw1 hw2
      refine wpl_copyB rfl (.tmp 94) (.tmp 103) rfl Y4 Y3 R _ _ rfl rfl wB.heap.size B l.length d P (over l m nf nt) ((l.drop P).take R) (own_drew HP.out) HZ3.out p2 (isl_drew HS.out) ?_
      intro w5 hO5 hf5
      rw [show (over l m nf nt).take P ++ (l.drop P).take R ++ (over l m nf nt).drop (P + R) = over l (over l m nf nt) P (P + R) by rw [show over l (over l m nf nt) P (P + R) = (over l m nf nt).take P ++ (l.drop P).take (P + R - P) ++ (over l m nf nt).drop (P + R) from rfl, show P + R - P = R by omega]] at hO5
      clear x0 x1 x2 x3; replace HB := Lib.hid (below_fr HB.out.drew hf5 (by rintro j ⟨ad, e, rfl⟩; have := (HP.out.addr ad e).2.1; omega)); replace HX := Lib.hid (HX.out.drew.fr hf5 (by rintro ⟨ad, e, h⟩; have := (HP.out.addr ad e).2.1; omega)); replace HO := Lib.hid ((own_drew HO.out).fr hf5 (fun ad e ⟨ad', e', h⟩ => HNE.out ad ad' e e' h)); replace HP := Lib.hid hO5; clear hf5 hO5; have x0 := cell0 HX.out; have x1 := cell1 HX.out; have x2 := cell2 HX.out; have x3 := cell3 HX.out
      clear hy1 hz1 HS HZ3
      have hl1 := over_len hlm hft hle
      have HOT := HAG.out _ (over_len hl1 (show P ≤ P + R by omega) p2) (by rw [Int.toNat_natCast, show ((P : Int) + R).toNat = P + R by omega]; exact over_agree hl1 (by omega) p2)
        (over_keeps hl1 (by omega) p2 (over_agree hlm hft hle))
      generalize over l (over l m nf nt) P (P + R) = k at HP HOT
      obtain ⟨o1, o2, o3, o4, o5, o6⟩ := HOT
      have K1 := Lib.hid (o1.trans HNE2.out)
      have K2 := Lib.hid (show (lsFrom k P R t v : Int) = nf by rw [o2]; exact HNF.out)
      have K3 := Lib.hid (show (lsAt k P R t v : Int) = na by rw [o3]; exact HNA.out)
      have K4 := Lib.hid (show (lsTo k P R t v : Int) = nt by rw [o4]; exact HNT.out)
      have K5 := Lib.hid (show (lsLen k P R t v : Int) = nl by rw [o5]; exact HNL.out)
      have K6 := Lib.hid o6
      clear o1 o2 o3 o4 o5 o6 hl1 hlm
      go_wp2_with fail
      go_at_call 44
      refine (spans_yes B l.length d P R t v nf na nt 0 k _ HP.out.is hde hM40 K2.out K3.out K4.out K1.out).mono ?_
      rintro e wn ⟨rfl, hb⟩
      clear x0 x1 x2 x3; replace HB := Lib.hid (pure_below HB.out hb); replace HX := Lib.hid (HX.out.pure hb); replace HO := Lib.hid (HO.out.pure hb); replace HP := Lib.hid (HP.out.pure hb); clear hb; have x0 := cell0 HX.out; have x1 := cell1 HX.out; have x2 := cell2 HX.out; have x3 := cell3 HX.out
      go_wp2_with fail
      go_at_call 35
      refine (llen_is A l.length c P R t v nl 0 l _ HO.out.is hce hM40 HNL.out HNE2.out).mono ?_
      rintro e wn ⟨rfl, hb⟩
      clear x0 x1 x2 x3; replace HB := Lib.hid (pure_below HB.out hb); replace HX := Lib.hid (HX.out.pure hb); replace HO := Lib.hid (HO.out.pure hb); replace HP := Lib.hid (HP.out.pure hb); clear hb; have x0 := cell0 HX.out; have x1 := cell1 HX.out; have x2 := cell2 HX.out; have x3 := cell3 HX.out
      go_wp2_with fail
      clear x0 x1 x2 x3
      go_loopw [14] (fun i wr => ∃ j : Nat, j ≤ nl ∧ i = .int .i64 j ∧ Below w.heap.size w wr ∧ IsB wr A l.length l ∧ IsB wr B l.length k ∧ Blk wr (w.heap.size + 1) 23 #[.int .i64 P, .int .i64 R, .int .i64 t, .int .i64 v]) (fun i _ => (nl - (intOf i)).toNat)
      case atStart => exact ⟨0, by omega, rfl, HB.out, HO.out.is, HP.out.is, HX.out⟩
      case round =>
        obtain ⟨j, hj, rfl, hB', hO', hP', hX'⟩ := hrel
        clear HB HO HX HP
        have HB := Lib.hid hB'
        have HO := Lib.hid hO'
        have HP := Lib.hid hP'
        have HX := Lib.hid hX'
        clear hB' hO' hX' hP'
        by_cases hlt : j < nl
        · have hj6 : (j : Int) < 600 := by omega
          obtain ⟨a, ha⟩ : ∃ x, atP l P R t v j = x := ⟨_, rfl⟩
          obtain ⟨b, hb⟩ : ∃ x, atQ l P R t v j = x := ⟨_, rfl⟩
          obtain ⟨e2, hd⟩ : ∃ x, atT l P R t v j = x := ⟨_, rfl⟩
          obtain ⟨g, hg⟩ : ∃ x, atV l P R t v j = x := ⟨_, rfl⟩
          obtain ⟨er, her⟩ : ∃ x, atE l P R t v j = x := ⟨_, rfl⟩
          have hK := K6.out j (by rw [HNLN.out]; exact hlt)
          rw [ha, hb, hd, hg, her] at hK
          obtain ⟨k1, k2, k3, k4, k5⟩ := hK
          have H1 := Lib.hid ha
          have H2 := Lib.hid hb
          have H3 := Lib.hid hd
          have H4 := Lib.hid hg
          have H5 := Lib.hid her
          have J1 := Lib.hid k1
          have J2 := Lib.hid k2
          have J3 := Lib.hid k3
          have J4 := Lib.hid k4
          have J5 := Lib.hid k5
          clear ha hb hd hg her k1 k2 k3 k4 k5
          have x0 := cell0 HX.out; have x1 := cell1 HX.out; have x2 := cell2 HX.out; have x3 := cell3 HX.out
          go_wp2_with fail
          go_at_call 37
          refine (lat_is A l.length c P R t v j a b e2 g er l _ HO.out hce hM40 H1.out H2.out H3.out H4.out H5.out).mono ?_
          rintro e wn ⟨rfl, hb⟩
          clear x0 x1 x2 x3; replace HB := Lib.hid (pure_below HB.out hb); replace HX := Lib.hid (HX.out.pure hb); replace HO := Lib.hid (HO.out.pure hb); replace HP := Lib.hid (HP.out.pure hb); clear hb; have x0 := cell0 HX.out; have x1 := cell1 HX.out; have x2 := cell2 HX.out; have x3 := cell3 HX.out
          replace HB := Lib.hid (HB.out.alloc HB.out.size (.cells #[.int .i64 a, .int .i64 b, .int .i64 e2, .int .i64 g] 23))
          replace HO := Lib.hid (HO.out.alloc (.cells #[.int .i64 a, .int .i64 b, .int .i64 e2, .int .i64 g] 23))
          replace HP := Lib.hid (HP.out.alloc (.cells #[.int .i64 a, .int .i64 b, .int .i64 e2, .int .i64 g] 23))
          replace HX := Lib.hid (HX.out.alloc (.cells #[.int .i64 a, .int .i64 b, .int .i64 e2, .int .i64 g] 23))
          clear x0 x1 x2 x3
          have x0 := cell0 HX.out; have x1 := cell1 HX.out; have x2 := cell2 HX.out; have x3 := cell3 HX.out
          go_wp2_with fail
          go_at_call 41
          refine (gives_yes B l.length d P R t v j a b e2 g er k _ HP.out hde hM40 J1.out J2.out J3.out J4.out J5.out).mono ?_
          rintro e wn ⟨rfl, hb⟩
          clear x0 x1 x2 x3; replace HB := Lib.hid (pure_below HB.out hb); replace HX := Lib.hid (HX.out.pure hb); replace HO := Lib.hid (HO.out.pure hb); replace HP := Lib.hid (HP.out.pure hb); clear hb; have x0 := cell0 HX.out; have x1 := cell1 HX.out; have x2 := cell2 HX.out; have x3 := cell3 HX.out
          clear x0 x1 x2 x3
          go_wp2
          go_roundw
          case rel => exact ⟨j + 1, by omega, by go_num, HB.out, HO.out, HP.out, HX.out⟩
          case measure => simp [intOf]; omega
        · obtain rfl : j = nl := by omega
          have x0 := cell0 HX.out; have x1 := cell1 HX.out; have x2 := cell2 HX.out; have x3 := cell3 HX.out
          go_wp2_with fail
          go_at_call 45
          refine (has_yes B l.length d P R t v j 0 k _ HP.out hde hM40 K5.out K1.out).mono ?_
          rintro e wn ⟨rfl, hb⟩
          clear x0 x1 x2 x3; replace HB := Lib.hid (pure_below HB.out hb); replace HX := Lib.hid (HX.out.pure hb); replace HO := Lib.hid (HO.out.pure hb); replace HP := Lib.hid (HP.out.pure hb); clear hb; have x0 := cell0 HX.out; have x1 := cell1 HX.out; have x2 := cell2 HX.out; have x3 := cell3 HX.out
          clear x0 x1 x2 x3
          go_wp2_with fail
          go_at_call 40
          refine (liworks_spec _).mono ?_
          rintro e w9 ⟨rfl, hb⟩
          replace HB := Lib.hid (pure_below HB.out hb)
          clear hb
          go_wp2
          go_ret
          exact ⟨rfl, HB.out⟩
    · have hen : (ne != 0) = true := by simpa using he
      clear he hnf hna hnt hnl hne
      go_wp2_with fail
      go_at_call 33
      refine (lspan_is A l.length c p q t v nf na nt ne l _ HO.out.is hce hM40 HNF.out HNA.out HNT.out HNE2.out).mono ?_
      rintro e wn ⟨rfl, hb⟩
      clear x0 x1 x2 x3; replace HB := Lib.hid (pure_below HB.out hb); replace HX := Lib.hid (HX.out.pure hb); replace HO := Lib.hid (HO.out.pure hb); replace HP := Lib.hid (HP.out.pure hb); clear hb; have x0 := cell0 HX.out; have x1 := cell1 HX.out; have x2 := cell2 HX.out; have x3 := cell3 HX.out
      clear x0 x1 x2 x3
      go_wp2_with fail
      go_at_call 40
      refine (liworks_spec _).mono ?_
      rintro e w9 ⟨rfl, hb⟩
      replace HB := Lib.hid (pure_below HB.out hb)
      clear hb
      go_wp2
      go_ret
      exact ⟨rfl, HB.out⟩

open Go.ChangeShapes Go.WideShapes Go.ChangeAt
set_option maxRecDepth 100000 in
theorem listOwn_run {H : Type} {enc : TypeId × Value → H} {v0 v1 : Value} {d0 d1 : DataW H} {p0 p1 : List MemPlace} (W : World) (base : Nat) (k0 : Value.okWide Try.prog W .any base 63 v0) (k1 : Value.okWide Try.prog W .any base 23 v1)
    (h0 : DataW.Trod enc Try.prog W 0 (fun _ => true) true 63 v0 d0 p0) (h1 : DataW.Trod enc Try.prog W 0 (fun _ => true) true 23 v1 d1 p1) :
    Calls Try.prog 9 #[v0, v1] W fun e w' => e = .returned (.bool true) ∧ Below W.heap.size W w' := by
  obtain ⟨A, n, c, l, A', n', c', l', rfl, i0, j0, i1, j1⟩ := bytes2_arg k0 h0
  obtain ⟨p, q, t, v, rfl, _⟩ := ref_arg k1 h1
  exact listown_spec A A' n c n' c' p q t v l l' W i0 i1 j0 j1

set_option maxRecDepth 100000 in
theorem listOwn_lifted (os : Os) (started : os.Started) (H : Type) (enc : TypeId × Value → H) :
    ReturnsInHanded {} Try.checked os 9 .any (Rows.listOwnSpec.pre6 enc Try.prog Try.f9 Rows.listOwnRow.domain false) (Rows.listOwnSpec.post enc Try.prog Try.f9 false true false false) := by
  refine returnsInHanded_of_change (C := Try.checked) acc_own started (by kernel_rfl) Try.func9
    (ChangeSpec.witness6 (enc := enc) (C := Try.checked) false ⟨#[], #[.agg #[.slice none 0 0, .slice none 0 0], .agg #[.int .i64 0, .int .i64 0, .int .i64 0, .int .i64 0]], []⟩ 8 (by kernel_rfl) (by kernel_rfl) (by kernel_rfl) (by kernel_rfl)) ?_
  intro W base args ds gs before hval0 hW hcnd _
  have hval : ∀ (j : Nat) t v, Try.f9.params[j]? = some t → args[j]? = some v → Value.okWide Try.prog W .any base t v := hval0
  have hW' := hW
  obtain ⟨p, q, hA0, hV, rfl, hfz, hnd⟩ := hW
  have hA : DataW.TrodAll enc Try.prog W 0 (fun _ => true) true Try.f9.params.toList args.toList ds p := hA0
  rw [Try.params9] at hA
  rw [Try.params9] at hval
  obtain ⟨v0, vs0, d0, ds0, p0, q0, hargs, rfl, rfl, h0, r0⟩ := trodAll_cons hA
  obtain ⟨v1, vs1, d1, ds1, p1, q1, rfl, rfl, rfl, h1, r1⟩ := trodAll_cons r0
  obtain ⟨rfl, rfl, rfl⟩ := trodAll_nil r1
  obtain rfl : args = #[v0, v1] := by cases args; simp_all
  obtain ⟨rfl, rfl⟩ := trodVars_none hV
  have k0 := hval 0 63 v0 rfl rfl
  have k1 := hval 1 23 v1 rfl rfl
  clear hA0 hval0
  refine (listOwn_run (enc := enc) W base k0 k1 h0 h1).mono fun e W' ⟨he, bel⟩ => ?_
  subst he
  exact ⟨_, rfl, _, _, _, [], _, [], hW', trodAll_mk1 (shut_bool Try.underlying4 _), (trodAll_cons_mk (below_arg acc_laidOut (by kernel_rfl) (of_decide_eq_true (by kernel_rfl)) h0 bel) (trodAll_cons_mk (below_arg acc_laidOut (by kernel_rfl) (of_decide_eq_true (by kernel_rfl)) h1 bel) trodAll_mk0)), rfl, bel.frame _, fun h => by cases h⟩

theorem listOwn_holds : Rows.ListOwnSaid :=
  OpenClaim.holds_of_wide 9 Try.f9 rfl rfl rfl rfl rfl rfl rfl ⟨rfl, rfl, rfl, rfl, rfl⟩ rfl rfl rfl rfl rfl (by kernel_rfl) Try.func9 (by kernel_rfl)
    (of_decide_eq_true (by kernel_rfl)) (by unfold Func.isWrapper; rw [if_neg (of_decide_eq_false (by kernel_rfl))]; exact ⟨rfl, rfl⟩)
    (fun os started H enc _ => listOwn_lifted os started H enc)
#print axioms listOwn_holds
end Go.Proofs.Ytaigofpipoimkaa
