/-
  Package text: the property TextOwn.
-/
import Derived.Test.YtdoagpophikgjaaCopy
import Derived.Test.YtdoagpophikgjaaTextI
import Derived.Deep.DeepCutAuto
import Derived.StillTailTactics
namespace Go.Proofs.Ytdoagpophikgjaa
open Go.RowKit Go.Acc
/-- Two rows of the call's own, in two blocks. -/
def Two (B M : Nat) (l m : List UInt8) (u6 u7 : Value) (w : World) : Prop :=
  ∃ A c A' c', u6 = .slice A M c ∧ u7 = .slice A' M c' ∧ OwnB w B A M c l ∧ OwnB w B A' M c' m ∧ ∀ ad ad', A = some ad → A' = some ad' → ad.block ≠ ad'.block
theorem own_drew {w : World} {B n c : Nat} {A : Option Addr} {l : List UInt8} (h : OwnB w B A n c l) : OwnB w.drew B A n c l := h
theorem two_1 {w : World} {B M n n' c c' B1 B2 : Nat} {A A' : Option Addr} {l m : List UInt8} (h1 : OwnB w B1 A n c l) (h2 : OwnB w B2 A' n' c' m) (h : ∀ ad, A = some ad → ad.block < B2) (hl : l.length = M) (hm : m.length = M) (hB1 : B ≤ B1) (hB2 : B ≤ B2) : Two B M l m (.slice A n c) (.slice A' n' c') w := by
  obtain rfl : M = n := hl.symm.trans h1.1
  obtain rfl : M = n' := hm.symm.trans h2.1
  refine ⟨A, c, A', c', rfl, rfl, h1.rebase hB1, h2.rebase hB2, fun ad ad' e e' => ?_⟩
  have := h ad e
  have := (h2.addr ad' e').2.1
  omega
theorem two_2 {w : World} {B M n n' c c' B1 B2 : Nat} {A A' : Option Addr} {l m : List UInt8} (h1 : OwnB w B1 A n c l) (h2 : OwnB w B2 A' n' c' m) (h : ∀ ad, A' = some ad → ad.block < B1) (hl : l.length = M) (hm : m.length = M) (hB1 : B ≤ B1) (hB2 : B ≤ B2) : Two B M l m (.slice A n c) (.slice A' n' c') w := by
  obtain rfl : M = n := hl.symm.trans h1.1
  obtain rfl : M = n' := hm.symm.trans h2.1
  refine ⟨A, c, A', c', rfl, rfl, h1.rebase hB1, h2.rebase hB2, fun ad ad' e e' => ?_⟩
  have := h ad' e'
  have := (h1.addr ad e).2.1
  omega
set_option maxRecDepth 100000 in
set_option maxHeartbeats 4000000 in
theorem textown_spec (A0 A1 : Option Addr) (n0 c0 n1 c1 : Nat) (p q t v : Int) (l0 l1 : List UInt8) (w : World) (h0 : IsB w A0 n0 l0) (h1 : IsB w A1 n1 l1) (hc0 : n0 ≤ c0) (hc1 : n1 ≤ c1) :
    Calls Try.prog 10 #[.agg #[.slice A0 n0 c0, .slice A1 n1 c1], .agg #[.int .i64 p, .int .i64 q, .int .i64 t, .int .i64 v]] w fun e w' => e = .returned (.bool true) ∧ Below w.heap.size w w' := by
  obtain ⟨X, hX⟩ : ∃ X : Nat, (if n1 < n0 then (n1 : Int) else (n0 : Int)) = (X : Int) := by
    split
    · exact ⟨n1, rfl⟩
    · exact ⟨n0, rfl⟩
  obtain ⟨M, hM⟩ : ∃ M : Nat, (if (600 : Int) < (X : Int) then (600 : Int) else (X : Int)) = (M : Int) := by
    split
    · exact ⟨600, rfl⟩
    · exact ⟨X, rfl⟩
  have hM0 : M ≤ n0 ∧ M ≤ n1 ∧ M ≤ 600 := by
    split at hM <;> split at hX <;> omega
  have hq0 := cut_run A0 n0 c0 M (by omega)
  have hq1 := cut_run A1 n1 c1 M (by omega)
  have HM := Lib.hid hM0
  have HL0 := Lib.hid ((((h0.take bc_len hM0.1).alloc (.cells #[.slice A0 n0 c0, .slice A1 n1 c1] 61))).alloc (.cells #[.int .i64 p, .int .i64 q, .int .i64 t, .int .i64 v] 25))
  have HL1 := Lib.hid ((((h1.take bc_len hM0.2.1).alloc (.cells #[.slice A0 n0 c0, .slice A1 n1 c1] 61))).alloc (.cells #[.int .i64 p, .int .i64 q, .int .i64 t, .int .i64 v] 25))
  have HB := Lib.hid (((Below.refl w.heap.size w).alloc (Nat.le_refl _) (.cells #[.slice A0 n0 c0, .slice A1 n1 c1] 61)).alloc (by simp) (.cells #[.int .i64 p, .int .i64 q, .int .i64 t, .int .i64 v] 25))
  have HX := Lib.hid (Blk.new_ (w := w.alloc (.cells #[.slice A0 n0 c0, .slice A1 n1 c1] 61)) (g := w.heap.size + 1) (by simp) 25 #[.int .i64 p, .int .i64 q, .int .i64 t, .int .i64 v])
  have HY := Lib.hid ((Blk.new w 61 #[.slice A0 n0 c0, .slice A1 n1 c1]).alloc (.cells #[.int .i64 p, .int .i64 q, .int .i64 t, .int .i64 v] 25))
  have hl0 := HL0.out.1
  have hl1 := HL1.out.1
  generalize l0.take M = l at HL0 hl0
  generalize l1.take M = m at HL1 hl1
  have HLN := Lib.hid hl0
  have HMN := Lib.hid hl1
  have hxl : w.heap.size + 1 < ((w.alloc (.cells #[.slice A0 n0 c0, .slice A1 n1 c1] 61)).alloc (.cells #[.int .i64 p, .int .i64 q, .int .i64 t, .int .i64 v] 25)).heap.size := HX.out.lt
  have hxl2 : w.heap.size ≤ ((w.alloc (.cells #[.slice A0 n0 c0, .slice A1 n1 c1] 61)).alloc (.cells #[.int .i64 p, .int .i64 q, .int .i64 t, .int .i64 v] 25)).heap.size := HB.out.size
  have y0 : ((w.alloc (.cells #[.slice A0 n0 c0, .slice A1 n1 c1] 61)).alloc (.cells #[.int .i64 p, .int .i64 q, .int .i64 t, .int .i64 v] 25)).cell? ⟨w.heap.size, 0, none⟩ = some (.slice A0 n0 c0) := HY.out.cell 0
  have y1 : ((w.alloc (.cells #[.slice A0 n0 c0, .slice A1 n1 c1] 61)).alloc (.cells #[.int .i64 p, .int .i64 q, .int .i64 t, .int .i64 v] 25)).cell? ⟨w.heap.size, 1, none⟩ = some (.slice A1 n1 c1) := HY.out.cell 1
  clear h0 h1 hM0 hl0 hl1
  go_enter Try.func10, Try.ntmps10
  go_wp2_with fail
  generalize (w.alloc (.cells #[.slice A0 n0 c0, .slice A1 n1 c1] 61)).alloc (.cells #[.int .i64 p, .int .i64 q, .int .i64 t, .int .i64 v] 25) = wB at HL0 HL1 HB HX HY y0 y1 hxl hxl2 ⊢
  go_upto_region 3 with fail
  go_cut [6, 7] (fun u6 u7 wx => Two wB.heap.size M l m u6 u7 wx ∧ Below wB.heap.size wB wx)
  case first =>
    go_region_held3 (fun w' => w'.cell? ⟨w.heap.size, 0, none⟩ = some (.slice A0 n0 c0) ∧ w'.cell? ⟨w.heap.size, 1, none⟩ = some (.slice A1 n1 c1)) (first | assumption | exact ⟨y0, y1⟩ | exact ⟨cell_pure HB5.out y0, cell_pure HB5.out y1⟩)
      (first
        | (go_at_call 14; (with_reducible refine (copyb_spec A0 M c0 l _ (is_drew HL0.out) (by have := HM.out; omega)).mono ?_); rintro e w5 ⟨A5, n5, c5, rfl, hO5, hb5⟩; have HO5 := Lib.hid hO5; have HB5 := Lib.hid hb5; have HL1 := Lib.hid ((is_drew HL1.out).pure hb5); have y0 := cell_pure hb5 (p := ⟨w.heap.size, 0, none⟩) (u := .slice A0 n0 c0) y0; have y1 := cell_pure hb5 (p := ⟨w.heap.size, 1, none⟩) (u := .slice A1 n1 c1) y1; clear hO5 hb5)
        | (go_at_call 14; (with_reducible refine (copyb_spec A1 M c1 m _ HL1.out (by have := HM.out; omega)).mono ?_); rintro e w6 ⟨A6, n6, c6, rfl, hO6, hb6⟩; have HO6 := Lib.hid hO6; have HB6 := Lib.hid hb6; have y0 := cell_pure hb6 (p := ⟨w.heap.size, 0, none⟩) (u := .slice A0 n0 c0) y0; have y1 := cell_pure hb6 (p := ⟨w.heap.size, 1, none⟩) (u := .slice A1 n1 c1) y1; clear hO6 hb6))
    go_wp2_with fail
    go_meet
    have hs := HB5.out.size
    exact ⟨two_1 (HO5.out.pure HB6.out) HO6.out (fun ad e => (HO5.out.addr ad e).2.2) HLN.out HMN.out (Nat.le_refl _) hs, pure_below (Below.refl _ _).drew (pure_trans HB5.out HB6.out)⟩
  case rest =>
    obtain ⟨⟨A, c, B, d, rfl, rfl, hO, hP, hne⟩, hb⟩ := hcut
    have HB := Lib.hid (pure_below HB.out hb)
    have HX := Lib.hid (HX.out.pure hb)
    have HO := Lib.hid hO
    have HP := Lib.hid hP
    have HNE := Lib.hid hne
    have hce := hO.cap.1
    have hde := hP.cap.1
    have hm6 := HM.out.2.2
    have x0 := cell0 HX.out
    have x1 := cell1 HX.out
    have x2 := cell2 HX.out
    have x3 := cell3 HX.out
    clear hO hP hne hb HL0 HL1 y0 y1 HY hX hM hq0 hq1
    have hlen := HLN.out
    subst hlen
    go_wp2_with fail
    go_at_call 35
    refine (place_spec A l.length c p q t v l _ HO.out.is hce (by omega)).mono ?_
    rintro e w2 ⟨rfl, hb⟩
    clear x0 x1 x2 x3; have HB := Lib.hid (pure_below HB.out hb); have HX := Lib.hid (HX.out.pure hb); have HO := Lib.hid (HO.out.pure hb); have HP := Lib.hid (HP.out.pure hb); clear hb; have x0 := cell0 HX.out; have x1 := cell1 HX.out; have x2 := cell2 HX.out; have x3 := cell3 HX.out
    by_cases he : fndE l p q t v [4, 5, 25] = 0
    · obtain ⟨a, ha, hLt, hle⟩ := fnd_take he
      obtain ⟨hm, hin, ht0, hcc⟩ := fnd_parts he
      obtain ⟨g1, g2⟩ := mayE_ok.1 hm
      have g2 := inB_iff.1 g2
      have g1 := formed_iff.1 g1
      have q1 := isW_iff.1 g1.2.1
      have v1 := isW_iff.1 g1.2.2
      have htgt : tgt l p q t v = a := by
        unfold fndA at ha
        rw [if_pos he] at ha
        exact ha
      obtain ⟨P, rfl⟩ : ∃ P : Nat, p = P := ⟨p.toNat, by omega⟩
      obtain ⟨R, rfl⟩ : ∃ R : Nat, q = R := ⟨q.toNat, by omega⟩
      obtain ⟨V, rfl⟩ : ∃ V : Nat, v = V := ⟨v.toNat, by omega⟩
      obtain ⟨N, hN⟩ : ∃ N, (fndL l P R t V [4, 5, 25]).length = N := ⟨_, rfl⟩
      have p2 : P + R ≤ l.length := by omega
      have r1 : 1 ≤ R := by omega
      have r8 : R ≤ 8 := by omega
      have v1 : 1 ≤ V := by omega
      have v8 : V ≤ 8 := by omega
      rw [hN] at hle
      rw [ha, hN, he]
      have d1 : decide (l.length < N) = false := decide_eq_false (by omega)
      have d2 : decide ((l.length : Int) - N < a) = false := decide_eq_false (by omega)
      have d3 : decide (l.length < R) = false := decide_eq_false (by omega)
      have d4 : decide ((l.length : Int) - R < P) = false := decide_eq_false (by omega)
      obtain ⟨E, hE, hE2⟩ : ∃ E : Nat, (if (l.length : Int) < (a : Int) + N + 1 then (l.length : Int) else (a : Int) + N + 1) = (E : Int) ∧ E = min (a + N + 1) l.length := by
        split
        · exact ⟨l.length, rfl, by omega⟩
        · exact ⟨a + N + 1, by omega, by omega⟩
      obtain ⟨F, hF, hF2⟩ : ∃ F : Nat, (if (a : Int) - V < 0 then 0 else (a : Int) - V) = (F : Int) ∧ F = a - V := by
        split
        · exact ⟨0, rfl, by omega⟩
        · exact ⟨a - V, by omega, by omega⟩
      have HE2 := Lib.hid hE2
      have HF2 := Lib.hid hF2
      have e1 : a ≤ E := by omega
      have e2 : F ≤ a := by omega
      have e3 : E ≤ l.length := by omega
      clear hE2 hF2
      clear hcc ht0 hin hm g1 g2 q1 ha hLt
      have HE := Lib.hid he
      have HN := Lib.hid hN
      have HT := Lib.hid htgt
      clear he hN htgt
      go_upto_if 106 with fail
      go_cut [11] (fun u11 wx => wx = w2 ∧ ∃ F : Nat, u11 = .int .i64 F ∧ F ≤ E ∧ F = ownLo l P R t V)
      case first =>
        by_cases h4 : t = 4
        · have h4' : (t != 4) = false := by simpa using h4
          have HLO := Lib.hid (show a = ownLo l P R t V by unfold ownLo; rw [if_pos h4, HT.out, Int.toNat_natCast])
          clear h4
          go_wp2_with fail
          go_meet
          exact ⟨rfl, a, rfl, e1, HLO.out⟩
        · have h4' : (t != 4) = true := by simpa using h4
          have HLO := Lib.hid (show F = ownLo l P R t V by unfold ownLo; rw [if_neg h4, HT.out, Int.toNat_natCast, Int.toNat_natCast, HF2.out])
          clear h4
          go_wp2_with fail
          go_meet
          exact ⟨rfl, F, rfl, by omega, HLO.out⟩
      case rest =>
        obtain ⟨rfl, G, rfl, hge, hlo⟩ := hcut
        have HLO := Lib.hid hlo
        have HHI := Lib.hid (show E = ownHi l P R t V by unfold ownHi; rw [HT.out, HN.out, Int.toNat_natCast, HE2.out])
        obtain ⟨Y1, hy1, hy2, _⟩ := cut_any2 A l.length c G E hge e3 hce
        obtain ⟨Y2, hz1, _, hz3⟩ := cut_any2 B l.length d G E hge e3 hde
        have HS := Lib.hid (hy2 _ _ HO.out.is)
        have HZ3 := Lib.hid hz3
        clear hy2 hz3 hlo HF2 hF hE
        have hlm := HMN.out
        have e4 : G ≤ E := hge
        go_wp2_with fail
        go_still_tail 8, (by kernel_rfl)
        refine wpl_copyB rfl (.tmp 115) (.tmp 119) rfl Y2 Y1 (E - G) _ _ rfl rfl wB.heap.size B l.length d G m ((l.drop G).take (E - G)) (own_drew HP.out) HZ3.out (by omega) (is_drew HS.out) ?_
        intro w4 hO4 hf4
        rw [show m.take G ++ (l.drop G).take (E - G) ++ m.drop (G + (E - G)) = over l m G E by unfold over; rw [show G + (E - G) = E by omega]] at hO4
        clear x0 x1 x2 x3; have HB := Lib.hid (below_fr HB.out.drew hf4 (by rintro j ⟨ad, e, rfl⟩; have := (HP.out.addr ad e).2.1; omega)); have HX := Lib.hid (HX.out.drew.fr hf4 (by rintro ⟨ad, e, h⟩; have := (HP.out.addr ad e).2.1; omega)); have HO := Lib.hid ((own_drew HO.out).fr hf4 (fun ad e ⟨ad', e', h⟩ => HNE.out ad ad' e e' h)); have HP := Lib.hid hO4; clear hf4 hO4; have x0 := cell0 HX.out; have x1 := cell1 HX.out; have x2 := cell2 HX.out; have x3 := cell3 HX.out
        clear hy1 hz1 HS HZ3
        obtain ⟨Y3, hy1, hy2, _⟩ := cut_any2 A l.length c P (P + R) (by omega) p2 hce
        obtain ⟨Y4, hz1, _, hz3⟩ := cut_any2 B l.length d P (P + R) (by omega) p2 hde
        have HS := Lib.hid (hy2 _ _ HO.out.is)
        have HZ3 := Lib.hid hz3
        rw [Int.natCast_add, show P + R - P = R by omega] at hy1 hz1
        rw [show P + R - P = R by omega] at HS HZ3
        clear hy2 hz3
        go_wp2_with fail
        have hpr : P + R ≤ (over l m G E).length := by rw [over_len hlm e4 e3]; exact p2
        have hw1 := IntWalk.i64_in ((P : Int) + (R : Int)) (by omega)
        have hw2 := wrap64_in ((P : Int) + (R : Int)) (by omega)
        go_still_tail 18, (by kernel_rfl)
        clear hw1 hw2
        refine wpl_copyB rfl (.tmp 129) (.tmp 138) rfl Y4 Y3 R _ _ rfl rfl wB.heap.size B l.length d P (over l m G E) ((l.drop P).take R) (own_drew HP.out) HZ3.out p2 (is_drew HS.out) ?_
        intro w5 hO5 hf5
        rw [show (over l m G E).take P ++ (l.drop P).take R ++ (over l m G E).drop (P + R) = over l (over l m G E) P (P + R) by rw [show over l (over l m G E) P (P + R) = (over l m G E).take P ++ (l.drop P).take (P + R - P) ++ (over l m G E).drop (P + R) from rfl, show P + R - P = R by omega]] at hO5
        clear x0 x1 x2 x3; have HB := Lib.hid (below_fr HB.out.drew hf5 (by rintro j ⟨ad, e, rfl⟩; have := (HP.out.addr ad e).2.1; omega)); have HX := Lib.hid (HX.out.drew.fr hf5 (by rintro ⟨ad, e, h⟩; have := (HP.out.addr ad e).2.1; omega)); have HO := Lib.hid ((own_drew HO.out).fr hf5 (fun ad e ⟨ad', e', h⟩ => HNE.out ad ad' e e' h)); have HP := Lib.hid hO5; clear hf5 hO5; have x0 := cell0 HX.out; have x1 := cell1 HX.out; have x2 := cell2 HX.out; have x3 := cell3 HX.out
        clear hy1 hz1 HS HZ3
        have hl1 := over_len hlm e4 e3
        have HOT := own_text HE.out (over_len hl1 (show P ≤ P + R by omega) p2) (by rw [Int.toNat_natCast, show ((P : Int) + R).toNat = P + R by omega]; exact over_agree hl1 (by omega) p2)
          (by rw [← HLO.out, ← HHI.out]; exact over_keeps hl1 (by omega) p2 (over_agree hlm e4 e3))
        have hfa : fndA l P R t V [4, 5, 25] = a := (if_pos HE.out).trans HT.out
        obtain ⟨X1, hX1⟩ : ∃ x, fndL l P R t V [4, 5] = x := ⟨_, rfl⟩
        obtain ⟨X2, hX2⟩ : ∃ x, fndL l P R t V [25] = x := ⟨_, rfl⟩
        obtain ⟨Z1, hZ1⟩ : ∃ x, fndE l P R t V [4, 5] = x := ⟨_, rfl⟩
        obtain ⟨Z2, hZ2⟩ : ∃ x, fndE l P R t V [25] = x := ⟨_, rfl⟩
        generalize over l (over l m G E) P (P + R) = k at HP HOT
        have K1 := Lib.hid ((HOT [4, 5, 25]).2.1.trans hfa)
        have K2 := Lib.hid (show ((fndL k P R t V [4, 5, 25]).length : Int) = N by rw [(HOT [4, 5, 25]).2.2, HN.out])
        have K3 := Lib.hid ((HOT [4, 5, 25]).1.trans HE.out)
        have K4 := Lib.hid ((HOT [4, 5]).2.2.trans hX1)
        have K5 := Lib.hid ((HOT [4, 5]).1.trans hZ1)
        have K6 := Lib.hid ((HOT [25]).2.2.trans hX2)
        have K7 := Lib.hid ((HOT [25]).1.trans hZ2)
        have L4 := Lib.hid hX1
        have L5 := Lib.hid hZ1
        have L6 := Lib.hid hX2
        have L7 := Lib.hid hZ2
        have hlk := HP.out.1
        clear HOT hX1 hX2 hZ1 hZ2 hfa hl1 hlm
        go_wp2_with fail
        go_at_call 35
        refine (place_is B l.length d P R t V k a N 0 _ HP.out.is hde (by omega) K1.out K2.out K3.out).mono ?_
        rintro e wn ⟨rfl, hb⟩
        clear x0 x1 x2 x3; have HB := Lib.hid (pure_below HB.out hb); have HX := Lib.hid (HX.out.pure hb); have HO := Lib.hid (HO.out.pure hb); have HP := Lib.hid (HP.out.pure hb); clear hb; have x0 := cell0 HX.out; have x1 := cell1 HX.out; have x2 := cell2 HX.out; have x3 := cell3 HX.out
        go_wp2_with fail
        go_at_call 43
        refine (textt_is A l.length c P R t V l X1 _ Z1 _ HO.out.is hce (by omega) L4.out L5.out rfl).mono ?_
        rintro e wn ⟨rfl, hb⟩
        clear x0 x1 x2 x3; have HB := Lib.hid (pure_below HB.out hb); have HX := Lib.hid (HX.out.pure hb); have HO := Lib.hid (HO.out.pure hb); have HP := Lib.hid (HP.out.pure hb); clear hb; have x0 := cell0 HX.out; have x1 := cell1 HX.out; have x2 := cell2 HX.out; have x3 := cell3 HX.out
        go_wp2_with fail
        go_at_call 43
        refine (textt_is B l.length d P R t V k X1 _ Z1 _ HP.out.is hde (by omega) K4.out K5.out rfl).mono ?_
        rintro e wn ⟨rfl, hb⟩
        clear x0 x1 x2 x3; have HB := Lib.hid (pure_below HB.out hb); have HX := Lib.hid (HX.out.pure hb); have HO := Lib.hid (HO.out.pure hb); have HP := Lib.hid (HP.out.pure hb); clear hb; have x0 := cell0 HX.out; have x1 := cell1 HX.out; have x2 := cell2 HX.out; have x3 := cell3 HX.out
        go_wp2_with fail
        go_at_call 41
        refine (blobt_is A l.length c P R t V l X2 _ Z2 _ HO.out.is hce (by omega) L6.out L7.out rfl).mono ?_
        rintro e wn ⟨rfl, hb⟩
        clear x0 x1 x2 x3; have HB := Lib.hid (pure_below HB.out hb); have HX := Lib.hid (HX.out.pure hb); have HO := Lib.hid (HO.out.pure hb); have HP := Lib.hid (HP.out.pure hb); clear hb; have x0 := cell0 HX.out; have x1 := cell1 HX.out; have x2 := cell2 HX.out; have x3 := cell3 HX.out
        go_wp2_with fail
        go_at_call 41
        refine (blobt_is B l.length d P R t V k X2 _ Z2 _ HP.out.is hde (by omega) K6.out K7.out rfl).mono ?_
        rintro e wn ⟨rfl, hb⟩
        clear x0 x1 x2 x3; have HB := Lib.hid (pure_below HB.out hb); have HX := Lib.hid (HX.out.pure hb); have HO := Lib.hid (HO.out.pure hb); have HP := Lib.hid (HP.out.pure hb); clear hb; have x0 := cell0 HX.out; have x1 := cell1 HX.out; have x2 := cell2 HX.out; have x3 := cell3 HX.out
        go_wp2_with fail
        go_at_call 46
        refine (textworks_spec _).mono ?_
        rintro e w9 ⟨rfl, hb⟩
        have HB := Lib.hid (pure_below HB.out hb)
        clear hb
        go_wp2
        go_ret
        exact ⟨rfl, HB.out⟩
    · have ha0 : fndA l p q t v [4, 5, 25] = 0 := if_neg he
      have hl0 : fndL l p q t v [4, 5, 25] = [] := if_neg he
      have hen : (fndE l p q t v [4, 5, 25] != 0) = true := by simpa using he
      rw [ha0, hl0]
      clear he ha0 hl0
      generalize fndE l p q t v [4, 5, 25] = er at hen
      go_wp2_with fail
      go_at_call 46
      refine (textworks_spec _).mono ?_
      rintro e w9 ⟨rfl, hb⟩
      have HB := Lib.hid (pure_below HB.out hb)
      clear hb
      go_wp2
      go_ret
      exact ⟨rfl, HB.out⟩

open Go.ChangeShapes Go.WideShapes Go.ChangeAt
theorem textOwn_run {H : Type} {enc : TypeId × Value → H} {v0 v1 : Value} {d0 d1 : DataW H} {p0 p1 : List MemPlace} (W : World) (base : Nat) (k0 : Value.okWide Try.prog W .any base 61 v0) (k1 : Value.okWide Try.prog W .any base 25 v1)
    (h0 : DataW.Trod enc Try.prog W 0 (fun _ => true) true 61 v0 d0 p0) (h1 : DataW.Trod enc Try.prog W 0 (fun _ => true) true 25 v1 d1 p1) :
    Calls Try.prog 10 #[v0, v1] W fun e w' => e = .returned (.bool true) ∧ Below W.heap.size W w' := by
  obtain ⟨A, n, c, l, A', n', c', l', rfl, i0, j0, i1, j1⟩ := bytes2_arg k0 h0
  obtain ⟨p, q, t, v, rfl, _⟩ := ref_arg k1 h1
  exact textown_spec A A' n c n' c' p q t v l l' W i0 i1 j0 j1

set_option maxRecDepth 100000 in
theorem textOwn_lifted (os : Os) (started : os.Started) (H : Type) (enc : TypeId × Value → H) :
    ReturnsInHanded {} Try.checked os 10 .any (Rows.textOwnSpec.pre6 enc Try.prog Try.f10 Rows.textOwnRow.domain false) (Rows.textOwnSpec.post enc Try.prog Try.f10 false true false false) := by
  refine returnsInHanded_of_change (C := Try.checked) acc_own started (by kernel_rfl) Try.func10
    (ChangeSpec.witness6 (enc := enc) (C := Try.checked) false ⟨#[], #[.agg #[.slice none 0 0, .slice none 0 0], .agg #[.int .i64 0, .int .i64 0, .int .i64 0, .int .i64 0]], []⟩ 8 (by kernel_rfl) (by kernel_rfl) (by kernel_rfl) (by kernel_rfl)) ?_
  intro W base args ds gs before hval0 hW hcnd _
  have hval : ∀ (j : Nat) t v, Try.f10.params[j]? = some t → args[j]? = some v → Value.okWide Try.prog W .any base t v := hval0
  have hW' := hW
  obtain ⟨p, q, hA0, hV, rfl, hfz, hnd⟩ := hW
  have hA : DataW.TrodAll enc Try.prog W 0 (fun _ => true) true Try.f10.params.toList args.toList ds p := hA0
  rw [Try.params10] at hA
  rw [Try.params10] at hval
  obtain ⟨v0, vs0, d0, ds0, p0, q0, hargs, rfl, rfl, h0, r0⟩ := trodAll_cons hA
  obtain ⟨v1, vs1, d1, ds1, p1, q1, rfl, rfl, rfl, h1, r1⟩ := trodAll_cons r0
  obtain ⟨rfl, rfl, rfl⟩ := trodAll_nil r1
  obtain rfl : args = #[v0, v1] := by cases args; simp_all
  obtain ⟨rfl, rfl⟩ := trodVars_none hV
  have k0 := hval 0 61 v0 rfl rfl
  have k1 := hval 1 25 v1 rfl rfl
  clear hA0 hval0
  refine (textOwn_run (enc := enc) W base k0 k1 h0 h1).mono fun e W' ⟨he, bel⟩ => ?_
  subst he
  exact ⟨_, rfl, _, _, _, [], _, [], hW', trodAll_mk1 (shut_bool Try.underlying4 _), (trodAll_cons_mk (below_arg acc_laidOut (by kernel_rfl) (of_decide_eq_true (by kernel_rfl)) h0 bel) (trodAll_cons_mk (below_arg acc_laidOut (by kernel_rfl) (of_decide_eq_true (by kernel_rfl)) h1 bel) trodAll_mk0)), rfl, bel.frame _, fun h => by cases h⟩

theorem textOwn_holds : Rows.TextOwnSaid :=
  OpenClaim.holds_of_wide 10 Try.f10 rfl rfl rfl rfl rfl rfl rfl ⟨rfl, rfl, rfl, rfl, rfl⟩ rfl rfl rfl rfl rfl (by kernel_rfl) Try.func10 (by kernel_rfl)
    (of_decide_eq_true (by kernel_rfl)) (by unfold Func.isWrapper; rw [if_neg (of_decide_eq_false (by kernel_rfl))]; exact ⟨rfl, rfl⟩)
    (fun os started H enc _ => textOwn_lifted os started H enc)
#print axioms textOwn_holds
end Go.Proofs.Ytdoagpophikgjaa
