/-
  Package scalar: the property ScalarOwn.
-/
import Derived.Test.YtogaifggpfipaaaCopy
import Derived.Test.YtogaifggpfipaaaScJ
import Derived.Deep.DeepCutAuto
import Derived.StillTailTactics
namespace Go.Proofs.Ytogaifggpfipaaa
open Go.RowKit Go.Acc
theorem tgt_agr {l m : List UInt8} {p q t v : Int} (hl : m.length = l.length) (hm : mayE l.length p q t v = 0) (h : Agree l m p.toNat (p + q).toNat) : tgtE m p q t v = tgtE l p q t v ∧ tgt m p q t v = tgt l p q t v := by
  obtain ⟨h1, h2⟩ := mayE_ok.1 hm
  have h2 := inB_iff.1 h2
  have e := loadU_agree hl h h2.2.1 h2.1
  unfold tgt tgtE
  rw [hl, e]
  exact ⟨rfl, rfl⟩
theorem plc_parts {l : List UInt8} {p q t v : Int} (h : plcE l p q t v = 0) : mayE l.length p q t v = 0 ∧ 0 ≤ plcA l p q t v ∧ 1 ≤ plcW l p q t v ∧ plcW l p q t v ≤ 8 ∧ plcA l p q t v + plcW l p q t v ≤ l.length := by
  have h0 : mayE l.length p q t v = 0 := by
    rcases plc_cases l p q t v with ⟨h1, e⟩ | ⟨h1, _⟩
    · rw [e] at h; exact absurd h h1
    · exact h1
  obtain ⟨g1, g2⟩ := mayE_ok.1 h0
  have g2 := inB_iff.1 g2
  have g1 := formed_iff.1 g1
  have q1 := isW_iff.1 g1.2.1
  have v1 := isW_iff.1 g1.2.2
  refine ⟨h0, ?_⟩
  unfold plcA plcW
  rw [if_pos h, if_pos h]
  cases hi : inlineT t with
  | true => simp; omega
  | false =>
    rcases plc_cases l p q t v with ⟨h1, e⟩ | ⟨_, ⟨_, e⟩ | ⟨_, h1, _⟩ | ⟨_, _, ⟨h1, e⟩ | ⟨_, _, e⟩ | ⟨_, _, _, e⟩ | ⟨_, _, h1, _⟩⟩⟩
    · exact absurd h0 h1
    · rw [e] at h; cases h
    · rw [hi] at h1; cases h1
    · rw [e] at h; exact absurd h h1
    · rw [e] at h; cases h
    · rw [e] at h; cases h
    · have h1 := inB_iff.1 h1
      simp
      omega
theorem own_sc {l m : List UInt8} {p q t v : Int} (h : plcE l p q t v = 0) (hl : m.length = l.length) (h1 : Agree l m p.toNat (p + q).toNat) (h2 : Agree l m (plcA l p q t v).toNat (plcA l p q t v + plcW l p q t v).toNat) :
    intV m p q t v = intV l p q t v ∧ intE m p q t v = intE l p q t v ∧ uintV m p q t v = uintV l p q t v ∧ uintE m p q t v = uintE l p q t v := by
  obtain ⟨hm, ha, hx1, hx8, hax⟩ := plc_parts h
  obtain ⟨e1, e2⟩ := tgt_agr hl hm h1
  have e3 : plcE m p q t v = plcE l p q t v := by
    unfold plcE
    rw [hl, e1, e2]
  have e4 : plcA m p q t v = plcA l p q t v := by
    unfold plcA
    rw [e3, e2]
  have e5 : plcW m p q t v = plcW l p q t v := by
    unfold plcW
    rw [e3]
  have e6 := loadU_agree hl h2 (by omega) ha
  have e7 : loadI m (plcA l p q t v) (plcW l p q t v) = loadI l (plcA l p q t v) (plcW l p q t v) := by
    unfold loadI
    rw [hl, e6]
  have e8 : scN m p q t v = scN l p q t v := by
    unfold scN rdN
    rw [e3, e4, e5, e7]
  have e9 : scU m p q t v = scU l p q t v := by
    unfold scU rdU
    rw [e3, e4, e5, e6, e7]
  unfold intV intE uintV uintE
  rw [e3, e8, e9]
  exact ⟨rfl, rfl, rfl, rfl⟩
set_option maxRecDepth 100000 in
set_option maxHeartbeats 4000000 in
theorem scown_spec (A0 A1 : Option Addr) (n0 c0 n1 c1 : Nat) (p q t v : Int) (l0 l1 : List UInt8) (w : World) (h0 : IsB w A0 n0 l0) (h1 : IsB w A1 n1 l1) (hc0 : n0 ≤ c0) (hc1 : n1 ≤ c1) :
    Calls Try.prog 5 #[.agg #[.slice A0 n0 c0, .slice A1 n1 c1], .agg #[.int .i64 p, .int .i64 q, .int .i64 t, .int .i64 v]] w fun e w' => e = .returned (.bool true) ∧ Below w.heap.size w w' := by
  obtain ⟨X, hX⟩ : ∃ X : Nat, (if n1 < n0 then (n1 : Int) else (n0 : Int)) = (X : Int) := by
    split
    · exact ⟨n1, rfl⟩
    · exact ⟨n0, rfl⟩
  obtain ⟨M, hM⟩ : ∃ M : Nat, (if (600 : Int) < (X : Int) then (600 : Int) else (X : Int)) = (M : Int) := by
    split
    · exact ⟨600, rfl⟩
    · exact ⟨X, rfl⟩
  have hM0 : M ≤ n0 ∧ M ≤ n1 ∧ M ≤ 600 := by
    split at hM <;> split at hX <;> omega
  have hq0 := cut_run A0 n0 c0 M (by omega)
  have hq1 := cut_run A1 n1 c1 M (by omega)
  have HM := Lib.hid hM0
  have HL0 := Lib.hid ((((h0.take bc_len hM0.1).alloc (.cells #[.slice A0 n0 c0, .slice A1 n1 c1] 39))).alloc (.cells #[.int .i64 p, .int .i64 q, .int .i64 t, .int .i64 v] 24))
  have HL1 := Lib.hid ((((h1.take bc_len hM0.2.1).alloc (.cells #[.slice A0 n0 c0, .slice A1 n1 c1] 39))).alloc (.cells #[.int .i64 p, .int .i64 q, .int .i64 t, .int .i64 v] 24))
  have HB := Lib.hid (((Below.refl w.heap.size w).alloc (Nat.le_refl _) (.cells #[.slice A0 n0 c0, .slice A1 n1 c1] 39)).alloc (by simp) (.cells #[.int .i64 p, .int .i64 q, .int .i64 t, .int .i64 v] 24))
  have HX := Lib.hid (Blk.new_ (w := w.alloc (.cells #[.slice A0 n0 c0, .slice A1 n1 c1] 39)) (g := w.heap.size + 1) (by simp) 24 #[.int .i64 p, .int .i64 q, .int .i64 t, .int .i64 v])
  have HY := Lib.hid ((Blk.new w 39 #[.slice A0 n0 c0, .slice A1 n1 c1]).alloc (.cells #[.int .i64 p, .int .i64 q, .int .i64 t, .int .i64 v] 24))
  have hl0 := HL0.out.1
  have hl1 := HL1.out.1
  generalize l0.take M = l at HL0 hl0
  generalize l1.take M = m at HL1 hl1
  have HLN := Lib.hid hl0
  have HMN := Lib.hid hl1
  have hxl : w.heap.size + 1 < ((w.alloc (.cells #[.slice A0 n0 c0, .slice A1 n1 c1] 39)).alloc (.cells #[.int .i64 p, .int .i64 q, .int .i64 t, .int .i64 v] 24)).heap.size := HX.out.lt
  have hxl2 : w.heap.size ≤ ((w.alloc (.cells #[.slice A0 n0 c0, .slice A1 n1 c1] 39)).alloc (.cells #[.int .i64 p, .int .i64 q, .int .i64 t, .int .i64 v] 24)).heap.size := HB.out.size
  have y0 : ((w.alloc (.cells #[.slice A0 n0 c0, .slice A1 n1 c1] 39)).alloc (.cells #[.int .i64 p, .int .i64 q, .int .i64 t, .int .i64 v] 24)).cell? ⟨w.heap.size, 0, none⟩ = some (.slice A0 n0 c0) := HY.out.cell 0
  have y1 : ((w.alloc (.cells #[.slice A0 n0 c0, .slice A1 n1 c1] 39)).alloc (.cells #[.int .i64 p, .int .i64 q, .int .i64 t, .int .i64 v] 24)).cell? ⟨w.heap.size, 1, none⟩ = some (.slice A1 n1 c1) := HY.out.cell 1
  clear h0 h1 hM0 hl0 hl1
  go_enter Try.func5, Try.ntmps5
  go_wp2_with fail
  generalize (w.alloc (.cells #[.slice A0 n0 c0, .slice A1 n1 c1] 39)).alloc (.cells #[.int .i64 p, .int .i64 q, .int .i64 t, .int .i64 v] 24) = wB at HL0 HL1 HB HX HY y0 y1 hxl hxl2 ⊢
  go_upto_region 2 with fail
  go_cut [6, 7] (fun u6 u7 wx => Two wB.heap.size M l m u6 u7 wx ∧ Below wB.heap.size wB wx)
  case first =>
    go_region_held3 (fun w' => w'.cell? ⟨w.heap.size, 0, none⟩ = some (.slice A0 n0 c0) ∧ w'.cell? ⟨w.heap.size, 1, none⟩ = some (.slice A1 n1 c1)) (first | assumption | exact ⟨y0, y1⟩ | exact ⟨cell_pure HB5.out y0, cell_pure HB5.out y1⟩)
      (first
        | (go_at_call 16; (with_reducible refine (copyb_spec A0 M c0 l _ (isb_drew HL0.out) (by have := HM.out; omega)).mono ?_); rintro e w5 ⟨A5, n5, c5, rfl, hO5, hb5⟩; have HO5 := Lib.hid hO5; have HB5 := Lib.hid hb5; have HL1 := Lib.hid ((isb_drew HL1.out).pure hb5); have y0 := cell_pure hb5 (p := ⟨w.heap.size, 0, none⟩) (u := .slice A0 n0 c0) y0; have y1 := cell_pure hb5 (p := ⟨w.heap.size, 1, none⟩) (u := .slice A1 n1 c1) y1; clear hO5 hb5)
        | (go_at_call 16; (with_reducible refine (copyb_spec A1 M c1 m _ HL1.out (by have := HM.out; omega)).mono ?_); rintro e w6 ⟨A6, n6, c6, rfl, hO6, hb6⟩; have HO6 := Lib.hid hO6; have HB6 := Lib.hid hb6; have y0 := cell_pure hb6 (p := ⟨w.heap.size, 0, none⟩) (u := .slice A0 n0 c0) y0; have y1 := cell_pure hb6 (p := ⟨w.heap.size, 1, none⟩) (u := .slice A1 n1 c1) y1; clear hO6 hb6))
    go_wp2_with fail
    go_meet
    have hs := HB5.out.size
    exact ⟨two_1 (HO5.out.pure HB6.out) HO6.out (fun ad e => (HO5.out.addr ad e).2.2) HLN.out HMN.out (Nat.le_refl _) hs, pure_below (Below.refl _ _).drew (pure_trans HB5.out HB6.out)⟩
  case rest =>
    obtain ⟨⟨A, c, B, d, rfl, rfl, hO, hP, hne⟩, hb⟩ := hcut
    have HB := Lib.hid (pure_below HB.out hb)
    have HX := Lib.hid (HX.out.pure hb)
    have HO := Lib.hid hO
    have HP := Lib.hid hP
    have HNE := Lib.hid hne
    have hce := hO.cap.1
    have hde := hP.cap.1
    have hm6 := HM.out.2.2
    have x0 := cell0 HX.out
    have x1 := cell1 HX.out
    have x2 := cell2 HX.out
    have x3 := cell3 HX.out
    clear hO hP hne hb HL0 HL1 y0 y1 HY hX hM hq0 hq1
    have hlen := HLN.out
    subst hlen
    have hM63 : l.length ≤ 9223372036854775807 := by omega
    go_wp2_with fail
    go_at_call 23
    refine (splace_spec A l.length c p q t v l _ HO.out.is hce hM63).mono ?_
    unfold PlcW
    rintro e w2 ⟨rfl, hb⟩
    clear x0 x1 x2 x3; have HB := Lib.hid (pure_below HB.out hb); have HX := Lib.hid (HX.out.pure hb); have HO := Lib.hid (HO.out.pure hb); have HP := Lib.hid (HP.out.pure hb); clear hb; have x0 := cell0 HX.out; have x1 := cell1 HX.out; have x2 := cell2 HX.out; have x3 := cell3 HX.out
    by_cases he : plcE l p q t v = 0
    · obtain ⟨hm, ha0, hx1, hx8, hax⟩ := plc_parts he
      obtain ⟨g1, g2⟩ := mayE_ok.1 hm
      have g2 := inB_iff.1 g2
      have g1 := formed_iff.1 g1
      have q1 := isW_iff.1 g1.2.1
      have hag : ∀ m : List UInt8, m.length = l.length → Agree l m p.toNat (p + q).toNat → Agree l m (plcA l p q t v).toNat (plcA l p q t v + plcW l p q t v).toNat → intV m p q t v = intV l p q t v ∧ intE m p q t v = intE l p q t v ∧ uintV m p q t v = uintV l p q t v ∧ uintE m p q t v = uintE l p q t v := fun m => own_sc he
      obtain ⟨P, rfl⟩ : ∃ P : Nat, p = P := ⟨p.toNat, by omega⟩
      obtain ⟨R, rfl⟩ : ∃ R : Nat, q = R := ⟨q.toNat, by omega⟩
      obtain ⟨a, ha⟩ : ∃ a : Nat, plcA l P R t v = a := ⟨(plcA l P R t v).toNat, by omega⟩
      obtain ⟨x, hx⟩ : ∃ x : Nat, plcW l P R t v = x := ⟨(plcW l P R t v).toNat, by omega⟩
      rw [ha, hx] at hag
      rw [ha] at ha0 hax
      rw [hx] at hx1 hx8 hax
      have p2 : P + R ≤ l.length := by omega
      have r1 : 1 ≤ R := by omega
      have r8 : R ≤ 8 := by omega
      have x1' : 1 ≤ x := by omega
      have x8' : x ≤ 8 := by omega
      have hle : a + x ≤ l.length := by omega
      have d0 : decide (x < 1) = false := decide_eq_false (by omega)
      have d1 : decide (l.length < x) = false := decide_eq_false (by omega)
      have d2 : decide ((l.length : Int) - x < a) = false := decide_eq_false (by omega)
      have d3 : decide (l.length < R) = false := decide_eq_false (by omega)
      have d4 : decide ((l.length : Int) - R < P) = false := decide_eq_false (by omega)
      have HAG := Lib.hid hag
      rw [ha, hx, he]
      clear hag hm ha0 hx1 hx8 hax g1 g2 q1 he ha hx
      obtain ⟨Y1, hy1, hy2, _⟩ := cut_any2 A l.length c a (a + x) (by omega) hle hce
      obtain ⟨Y2, hz1, _, hz3⟩ := cut_any2 B l.length d a (a + x) (by omega) hle hde
      have HS := Lib.hid (hy2 _ _ HO.out.is)
      have HZ3 := Lib.hid hz3
      rw [Int.natCast_add, show a + x - a = x by omega] at hy1 hz1
      rw [show a + x - a = x by omega] at HS HZ3
      have hlm := HMN.out
      clear hy2 hz3
      have hw1 := IntWalk.i64_in ((a : Int) + (x : Int)) (by omega)
      have hw2 := wrap64_in ((a : Int) + (x : Int)) (by omega)
      have HW1 := Lib.hid hw1
      have HW2 := Lib.hid hw2
      clear hw1 hw2
      go_wp2_with fail
      have hw1 := HW1.out
      have hw2 := HW2.out
      go_still_tail 12, (by kernel_rfl)
      clear hw1 hw2
      refine wpl_copyB rfl (.tmp 89) (.tmp 95) rfl Y2 Y1 x _ _ rfl rfl wB.heap.size B l.length d a m ((l.drop a).take x) (own_drew HP.out) HZ3.out hle (isb_drew HS.out) ?_
      intro w4 hO4 hf4
      rw [show m.take a ++ (l.drop a).take x ++ m.drop (a + x) = over l m a (a + x) by rw [show over l m a (a + x) = m.take a ++ (l.drop a).take (a + x - a) ++ m.drop (a + x) from rfl, show a + x - a = x by omega]] at hO4
      clear x0 x1 x2 x3; have HB := Lib.hid (below_fr HB.out.drew hf4 (by rintro j ⟨ad, e, rfl⟩; have := (HP.out.addr ad e).2.1; omega)); have HX := Lib.hid (HX.out.drew.fr hf4 (by rintro ⟨ad, e, h⟩; have := (HP.out.addr ad e).2.1; omega)); have HO := Lib.hid ((own_drew HO.out).fr hf4 (fun ad e ⟨ad', e', h⟩ => HNE.out ad ad' e e' h)); have HP := Lib.hid hO4; clear hf4 hO4; have x0 := cell0 HX.out; have x1 := cell1 HX.out; have x2 := cell2 HX.out; have x3 := cell3 HX.out
      clear hy1 hz1 HS HZ3
      obtain ⟨Y3, hy1, hy2, _⟩ := cut_any2 A l.length c P (P + R) (by omega) p2 hce
      obtain ⟨Y4, hz1, _, hz3⟩ := cut_any2 B l.length d P (P + R) (by omega) p2 hde
      have HS := Lib.hid (hy2 _ _ HO.out.is)
      have HZ3 := Lib.hid hz3
      rw [Int.natCast_add, show P + R - P = R by omega] at hy1 hz1
      rw [show P + R - P = R by omega] at HS HZ3
      clear hy2 hz3
      go_wp2_with fail
      have hw1 := IntWalk.i64_in ((P : Int) + (R : Int)) (by omega)
      have hw2 := wrap64_in ((P : Int) + (R : Int)) (by omega)
      go_still_tail 18, (by kernel_rfl)
      clear hw1 hw2
      refine wpl_copyB rfl (.tmp 105) (.tmp 114) rfl Y4 Y3 R _ _ rfl rfl wB.heap.size B l.length d P (over l m a (a + x)) ((l.drop P).take R) (own_drew HP.out) HZ3.out p2 (isb_drew HS.out) ?_
      intro w5 hO5 hf5
      rw [show (over l m a (a + x)).take P ++ (l.drop P).take R ++ (over l m a (a + x)).drop (P + R) = over l (over l m a (a + x)) P (P + R) by rw [show over l (over l m a (a + x)) P (P + R) = (over l m a (a + x)).take P ++ (l.drop P).take (P + R - P) ++ (over l m a (a + x)).drop (P + R) from rfl, show P + R - P = R by omega]] at hO5
      clear x0 x1 x2 x3; have HB := Lib.hid (below_fr HB.out.drew hf5 (by rintro j ⟨ad, e, rfl⟩; have := (HP.out.addr ad e).2.1; omega)); have HX := Lib.hid (HX.out.drew.fr hf5 (by rintro ⟨ad, e, h⟩; have := (HP.out.addr ad e).2.1; omega)); have HO := Lib.hid ((own_drew HO.out).fr hf5 (fun ad e ⟨ad', e', h⟩ => HNE.out ad ad' e e' h)); have HP := Lib.hid hO5; clear hf5 hO5; have x0 := cell0 HX.out; have x1 := cell1 HX.out; have x2 := cell2 HX.out; have x3 := cell3 HX.out
      clear hy1 hz1 HS HZ3
      have hl1 := over_len hlm (show a ≤ a + x by omega) hle
      have HOT := HAG.out _ (over_len hl1 (show P ≤ P + R by omega) p2) (by rw [Int.toNat_natCast, show ((P : Int) + R).toNat = P + R by omega]; exact over_agree hl1 (by omega) p2)
        (by rw [Int.toNat_natCast, show ((a : Int) + x).toNat = a + x by omega]; exact over_keeps hl1 (by omega) p2 (over_agree hlm (by omega) hle))
      obtain ⟨X1, hX1⟩ : ∃ x, intV l P R t v = x := ⟨_, rfl⟩
      obtain ⟨X2, hX2⟩ : ∃ x, intE l P R t v = x := ⟨_, rfl⟩
      obtain ⟨Z1, hZ1⟩ : ∃ x : Int, (uintV l P R t v : Int) = x := ⟨_, rfl⟩
      obtain ⟨Z2, hZ2⟩ : ∃ x, uintE l P R t v = x := ⟨_, rfl⟩
      generalize over l (over l m a (a + x)) P (P + R) = k at HP HOT
      have K4 := Lib.hid (HOT.1.trans hX1)
      have K5 := Lib.hid (HOT.2.1.trans hX2)
      have K6 := Lib.hid (show (uintV k P R t v : Int) = Z1 by rw [HOT.2.2.1]; exact hZ1)
      have K7 := Lib.hid (HOT.2.2.2.trans hZ2)
      have L4 := Lib.hid hX1
      have L5 := Lib.hid hX2
      have L6 := Lib.hid hZ1
      have L7 := Lib.hid hZ2
      clear HOT hX1 hX2 hZ1 hZ2 hl1 hlm
      go_wp2_with fail
      go_at_call 17
      refine (int_is A l.length c P R t v l X1 X2 _ HO.out.is hce hM63 L4.out L5.out).mono ?_
      rintro e wn ⟨rfl, hb⟩
      clear x0 x1 x2 x3; have HB := Lib.hid (pure_below HB.out hb); have HX := Lib.hid (HX.out.pure hb); have HO := Lib.hid (HO.out.pure hb); have HP := Lib.hid (HP.out.pure hb); clear hb; have x0 := cell0 HX.out; have x1 := cell1 HX.out; have x2 := cell2 HX.out; have x3 := cell3 HX.out
      go_wp2_with fail
      go_at_call 17
      refine (int_is B l.length d P R t v k X1 X2 _ HP.out.is hde hM63 K4.out K5.out).mono ?_
      rintro e wn ⟨rfl, hb⟩
      clear x0 x1 x2 x3; have HB := Lib.hid (pure_below HB.out hb); have HX := Lib.hid (HX.out.pure hb); have HO := Lib.hid (HO.out.pure hb); have HP := Lib.hid (HP.out.pure hb); clear hb; have x0 := cell0 HX.out; have x1 := cell1 HX.out; have x2 := cell2 HX.out; have x3 := cell3 HX.out
      go_wp2_with fail
      go_at_call 19
      refine (uint_is A l.length c P R t v l Z1 Z2 _ HO.out.is hce hM63 L6.out L7.out).mono ?_
      rintro e wn ⟨rfl, hb⟩
      clear x0 x1 x2 x3; have HB := Lib.hid (pure_below HB.out hb); have HX := Lib.hid (HX.out.pure hb); have HO := Lib.hid (HO.out.pure hb); have HP := Lib.hid (HP.out.pure hb); clear hb; have x0 := cell0 HX.out; have x1 := cell1 HX.out; have x2 := cell2 HX.out; have x3 := cell3 HX.out
      go_wp2_with fail
      go_at_call 19
      refine (uint_is B l.length d P R t v k Z1 Z2 _ HP.out.is hde hM63 K6.out K7.out).mono ?_
      rintro e wn ⟨rfl, hb⟩
      clear x0 x1 x2 x3; have HB := Lib.hid (pure_below HB.out hb); have HX := Lib.hid (HX.out.pure hb); have HO := Lib.hid (HO.out.pure hb); have HP := Lib.hid (HP.out.pure hb); clear hb; have x0 := cell0 HX.out; have x1 := cell1 HX.out; have x2 := cell2 HX.out; have x3 := cell3 HX.out
      go_wp2_with fail
      go_at_call 26
      refine (scworks_spec _).mono ?_
      rintro e w9 ⟨rfl, hb⟩
      have HB := Lib.hid (pure_below HB.out hb)
      clear hb
      go_wp2
      go_ret
      exact ⟨rfl, HB.out⟩
    · have hen : (plcE l p q t v != 0) = true := by simpa using he
      clear he
      generalize plcE l p q t v = er at hen
      go_wp2_with fail
      go_at_call 26
      refine (scworks_spec _).mono ?_
      rintro e w9 ⟨rfl, hb⟩
      have HB := Lib.hid (pure_below HB.out hb)
      clear hb
      go_wp2
      go_ret
      exact ⟨rfl, HB.out⟩

open Go.ChangeShapes Go.WideShapes Go.ChangeAt
set_option maxRecDepth 100000 in
theorem scalarOwn_run {H : Type} {enc : TypeId × Value → H} {v0 v1 : Value} {d0 d1 : DataW H} {p0 p1 : List MemPlace} (W : World) (base : Nat) (k0 : Value.okWide Try.prog W .any base 39 v0) (k1 : Value.okWide Try.prog W .any base 24 v1)
    (h0 : DataW.Trod enc Try.prog W 0 (fun _ => true) true 39 v0 d0 p0) (h1 : DataW.Trod enc Try.prog W 0 (fun _ => true) true 24 v1 d1 p1) :
    Calls Try.prog 5 #[v0, v1] W fun e w' => e = .returned (.bool true) ∧ Below W.heap.size W w' := by
  obtain ⟨A, n, c, l, A', n', c', l', rfl, i0, j0, i1, j1⟩ := bytes2_arg k0 h0
  obtain ⟨p, q, t, v, rfl, _⟩ := ref_arg k1 h1
  exact scown_spec A A' n c n' c' p q t v l l' W i0 i1 j0 j1

set_option maxRecDepth 100000 in
theorem scalarOwn_lifted (os : Os) (started : os.Started) (H : Type) (enc : TypeId × Value → H) :
    ReturnsInHanded {} Try.checked os 5 .any (Rows.scalarOwnSpec.pre6 enc Try.prog Try.f5 Rows.scalarOwnRow.domain false) (Rows.scalarOwnSpec.post enc Try.prog Try.f5 false true false false) := by
  refine returnsInHanded_of_change (C := Try.checked) acc_own started (by kernel_rfl) Try.func5
    (ChangeSpec.witness6 (enc := enc) (C := Try.checked) false ⟨#[], #[.agg #[.slice none 0 0, .slice none 0 0], .agg #[.int .i64 0, .int .i64 0, .int .i64 0, .int .i64 0]], []⟩ 8 (by kernel_rfl) (by kernel_rfl) (by kernel_rfl) (by kernel_rfl)) ?_
  intro W base args ds gs before hval0 hW hcnd _
  have hval : ∀ (j : Nat) t v, Try.f5.params[j]? = some t → args[j]? = some v → Value.okWide Try.prog W .any base t v := hval0
  have hW' := hW
  obtain ⟨p, q, hA0, hV, rfl, hfz, hnd⟩ := hW
  have hA : DataW.TrodAll enc Try.prog W 0 (fun _ => true) true Try.f5.params.toList args.toList ds p := hA0
  rw [Try.params5] at hA
  rw [Try.params5] at hval
  obtain ⟨v0, vs0, d0, ds0, p0, q0, hargs, rfl, rfl, h0, r0⟩ := trodAll_cons hA
  obtain ⟨v1, vs1, d1, ds1, p1, q1, rfl, rfl, rfl, h1, r1⟩ := trodAll_cons r0
  obtain ⟨rfl, rfl, rfl⟩ := trodAll_nil r1
  obtain rfl : args = #[v0, v1] := by cases args; simp_all
  obtain ⟨rfl, rfl⟩ := trodVars_none hV
  have k0 := hval 0 39 v0 rfl rfl
  have k1 := hval 1 24 v1 rfl rfl
  clear hA0 hval0
  refine (scalarOwn_run (enc := enc) W base k0 k1 h0 h1).mono fun e W' ⟨he, bel⟩ => ?_
  subst he
  exact ⟨_, rfl, _, _, _, [], _, [], hW', trodAll_mk1 (shut_bool Try.underlying4 _), (trodAll_cons_mk (below_arg acc_laidOut (by kernel_rfl) (of_decide_eq_true (by kernel_rfl)) h0 bel) (trodAll_cons_mk (below_arg acc_laidOut (by kernel_rfl) (of_decide_eq_true (by kernel_rfl)) h1 bel) trodAll_mk0)), rfl, bel.frame _, fun h => by cases h⟩

theorem scalarOwn_holds : Rows.ScalarOwnSaid :=
  OpenClaim.holds_of_wide 5 Try.f5 rfl rfl rfl rfl rfl rfl rfl ⟨rfl, rfl, rfl, rfl, rfl⟩ rfl rfl rfl rfl rfl (by kernel_rfl) Try.func5 (by kernel_rfl)
    (of_decide_eq_true (by kernel_rfl)) (by unfold Func.isWrapper; rw [if_neg (of_decide_eq_false (by kernel_rfl))]; exact ⟨rfl, rfl⟩)
    (fun os started H enc _ => scalarOwn_lifted os started H enc)
#print axioms scalarOwn_holds
end Go.Proofs.Ytogaifggpfipaaa
