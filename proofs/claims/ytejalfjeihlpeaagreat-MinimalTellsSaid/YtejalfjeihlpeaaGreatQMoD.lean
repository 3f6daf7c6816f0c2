/-
  Package accordionref30: comes.
-/
import Derived.Test.YtejalfjeihlpeaaGreatQMoC
namespace Go.Proofs.YtejalfjeihlpeaaGreat
open Go.RowKit Go.Acc
/-- The spots without those of keys. -/
def flt (H : List P3) : List P3 := H.filter fun y => decide (y.2.1 ≠ 4)
theorem flt_key (H : List P3) {y : P3} (h : y.2.1 = 4) : flt (H ++ [y]) = flt H := by simp [flt, h]
theorem flt_snoc (H : List P3) {y : P3} (h : y.2.1 ≠ 4) : flt (H ++ [y]) = flt H ++ [y] := by simp [flt, h]
theorem flt_mem {H : List P3} {y : P3} (h : y.2.1 ≠ 4) : y ∈ flt H ↔ y ∈ H := by simp [flt, h]
def LenOk (l : List UInt8) (H : List P3) : Prop := H.length + mnLeft l.length H ≤ (l.length + 1) * 576
theorem lenok_see {l : List UInt8} {H : List P3} {y : P3} (h : LenOk l H) (hy : y ∈ mnAll l.length) (hn : y ∉ H) : LenOk l (H ++ [y]) := by
  have := mnleft_see l.length H y hy hn
  unfold LenOk at h ⊢
  rw [List.length_append, List.length_singleton]
  omega
theorem lenok_len {l : List UInt8} {H : List P3} (h : LenOk l H) (hn : l.length ≤ 1000000) : H.length ≤ 1073741823 := by
  unfold LenOk at h
  omega
/-- What comes leaves behind. -/
def RoOut (E : RoE) (g : Option Nat) (x : Int) (w w' : World) : Except Int (List P3) → Prop
  | .ok had => ∃ g' H', flt H' = had ∧ LenOk E.l H' ∧ RoW E g' H' x w' ∧ RoTo E g g' w w'
  | .error a => 0 ≤ a ∧ ∃ g' H', RoW E g' H' a w' ∧ RoTo E g g' w w'
def RoAt (E : RoE) (go : Rq → List P3 → Option (Except Int (List P3))) : Prop := ∀ (g : Option Nat) (H : List P3) (x p q t v : Int) (res : Except Int (List P3)) (w : World), RoW E g H x w → x < 0 → LenOk E.l H → MnOk ⟨p, q, t, v⟩ → go ⟨p, q, t, v⟩ (flt H) = some res →
  Calls Tryz.prog 40 #[.pointer (some ⟨E.bw, 0, none⟩), .agg #[.int .i64 p, .int .i64 q, .int .i64 t, .int .i64 v]] w fun e w' => e = .returned (.tuple #[]) ∧ RoOut E g x w w' res
/-- Where the elements' turn has come: what is left to do. -/
def RoMid (E : RoE) (go : Rq → List P3 → Option (Except Int (List P3))) (r : Rq) (is : List Nat) (res : Except Int (List P3)) (x : Int) (H2 : List P3) (x2 : Int) : Prop :=
  (x2 = x ∧ LenOk E.l H2 ∧ mnEach go E.l r is (flt H2) = some res) ∨ (0 ≤ x2 ∧ res = .error x2)
def RoCut (E : RoE) (go : Rq → List P3 → Option (Except Int (List P3))) (r : Rq) (is : List Nat) (res : Except Int (List P3)) (x : Int) (bR : Nat) (g : Option Nat) (w wx : World) : Prop :=
  ∃ g2 H2 x2, RoW E g2 H2 x2 wx ∧ RoTo E g g2 w wx ∧ RoLone E g2 wx bR 48 #[.int .i64 r.p, .int .i64 r.q, .int .i64 r.t, .int .i64 r.v] ∧ RoMid E go r is res x H2 x2
def RoSeen (E : RoE) (g : Option Nat) (H : List P3) (x : Int) (w wx : World) : Prop := ∃ g', RoW E g' H x wx ∧ RoTo E g g' w wx
theorem range_drop {N k : Nat} (h : k < N) : (List.range N).drop k = k :: (List.range N).drop (k + 1) := by
  rw [List.drop_eq_getElem_cons (by rw [List.length_range]; exact h)]
  simp
set_option maxRecDepth 100000 in
set_option maxHeartbeats 1000000 in
/-- Once an item has been found nothing more is done. -/
theorem ro_done (E : RoE) (g : Option Nat) (H : List P3) (x p q t v : Int) (w : World) (h : RoW E g H x w) (hx : 0 ≤ x) :
    Calls Tryz.prog 40 #[.pointer (some ⟨E.bw, 0, none⟩), .agg #[.int .i64 p, .int .i64 q, .int .i64 t, .int .i64 v]] w fun e w' => e = .returned (.tuple #[]) ∧ Below w.heap.size w w' := by
  have HC := Lib.hid (h.alloc (.cells #[.int .i64 p, .int .i64 q, .int .i64 t, .int .i64 v] 48))
  have HB := Lib.hid ((Below.refl w.heap.size w).alloc (Nat.le_refl _) (.cells #[.int .i64 p, .int .i64 q, .int .i64 t, .int .i64 v] 48))
  clear h
  have c2 := HC.out.c2
  go_enter Tryz.func40, Tryz.ntmps40
  go_wp2_with fail
  refine bodyPost_ret (results_none rfl _ _ _) rfl ?_
  exact ⟨rfl, HB.out⟩
set_option maxRecDepth 100000 in
set_option maxHeartbeats 4000000 in
theorem ro_step (E : RoE) (d : Nat) (IH : RoAt E (mnGo E.l d)) : RoAt E (mnGo E.l (d + 1)) := by
  intro g H x p q t v res w h hx hlk hok hgo
  have hnn := h.ok.hn
  have hcc := h.ok.hc
  have hlen := h.len
  have HIH := Lib.hid IH
  have HC := Lib.hid (h.alloc (.cells #[.int .i64 p, .int .i64 q, .int .i64 t, .int .i64 v] 48))
  have HX := Lib.hid (h.lone 48 #[.int .i64 p, .int .i64 q, .int .i64 t, .int .i64 v])
  have HB := Lib.hid ((RoTo.refl E g w).alloc (.cells #[.int .i64 p, .int .i64 q, .int .i64 t, .int .i64 v] 48))
  have HLK := Lib.hid hlk
  have HOK := Lib.hid hok
  have HG := Lib.hid hgo
  have HHL := Lib.hid (lenok_len hlk (by omega))
  clear h IH hlk hok hgo
  obtain ⟨il, hil⟩ : ∃ b, inlineT t = b := ⟨_, rfl⟩
  have HIL := Lib.hid hil
  clear hil
  go_enter Tryz.func40, Tryz.ntmps40
  go_upto_region 1 with fail
  generalize w.alloc (.cells #[.int .i64 p, .int .i64 q, .int .i64 t, .int .i64 v] 48) = w1 at HC HX HB ⊢
  obtain ⟨bR, hbr⟩ : ∃ b, w.heap.size = b := ⟨_, rfl⟩
  rw [hbr] at HX ⊢
  clear hbr
  have c0 := HC.out.c0; have c2 := HC.out.c2; have x0 := cell0 HX.out.1; have x1 := cell1 HX.out.1; have x2 := cell2 HX.out.1; have x3 := cell3 HX.out.1
  go_wp2_with fail
  go_at_call 63
  refine (rinline_is t il _ HIL.out).mono ?_
  rintro e w2 ⟨rfl, hb⟩
  replace HB := Lib.hid (HB.out.below hb); replace HC := Lib.hid (HC.out.pure hb); replace HX := Lib.hid (HX.out.pure hb); clear c0 c2 x0 x1 x2 x3; clear hb; have c0 := HC.out.c0; have c2 := HC.out.c2; have x0 := cell0 HX.out.1; have x1 := cell1 HX.out.1; have x2 := cell2 HX.out.1; have x3 := cell3 HX.out.1
  cases il with
  | true =>
    have hres : res = .ok (flt H) := by
      have h := HG.out
      unfold mnGo at h
      rw [if_pos HIL.out] at h
      injection h with h
      exact h.symm
    subst hres
    go_wp2_with fail
    refine bodyPost_ret (results_none rfl _ _ _) rfl ?_
    exact ⟨rfl, g, H, rfl, HLK.out, HC.out, HB.out⟩
  | false =>
    obtain ⟨a, ha⟩ : ∃ a, tgt E.l p q t v = a := ⟨_, rfl⟩
    obtain ⟨er, her⟩ : ∃ a, tgtE E.l p q t v = a := ⟨_, rfl⟩
    have HA := Lib.hid ha
    have HER := Lib.hid her
    have HA0 := Lib.hid (show 0 ≤ a by rw [← ha]; exact (tgt_bd E.l p q t v).1)
    have HIN := Lib.hid (show (a, t, v) ∈ mnAll E.l.length by have := mnok_in (l := E.l) HOK.out (by simp only; rw [HIL.out]; decide); unfold mnHere at this; simp only [ha] at this; exact this)
    clear ha her
    go_wp2_with fail
    go_region_held3 (fun w' => w'.cell? ⟨E.bw, 0, none⟩ = some (.slice E.A E.n E.c) ∧ (w'.cell? ⟨bR, 0, none⟩ = some (.int .i64 p) ∧ w'.cell? ⟨bR, 1, none⟩ = some (.int .i64 q) ∧ w'.cell? ⟨bR, 2, none⟩ = some (.int .i64 t) ∧ w'.cell? ⟨bR, 3, none⟩ = some (.int .i64 v))) (first | with_reducible exact ⟨c0, x0, x1, x2, x3⟩ | with_reducible exact ⟨ldrew_ c0, ldrew_ x0, ldrew_ x1, ldrew_ x2, ldrew_ x3⟩) (first | (go_at_call 65; (with_reducible refine (rtarget_is E.A E.n E.c p q t v a er E.l _ HC.out.drew.b (by omega) HA.out HER.out).mono ?_); rintro e w5 ⟨rfl, hb⟩; replace HB := Lib.hid (HB.out.drew.below hb); replace HC := Lib.hid (HC.out.drew.pure hb); replace HX := Lib.hid (HX.out.drew.pure hb); clear c0 c2 x0 x1 x2 x3; clear hb; have c0 := HC.out.c0; have c2 := HC.out.c2; have x0 := cell0 HX.out.1; have x1 := cell1 HX.out.1; have x2 := cell2 HX.out.1; have x3 := cell3 HX.out.1))
    go_upto_region 4 with fail
    have HY := Lib.hid (HC.out.lone 48 #[.int .i64 a, .int .i64 0, .int .i64 t, .int .i64 v])
    have hba : Below w5.heap.size w5 (w5.alloc (.cells #[.int .i64 a, .int .i64 0, .int .i64 t, .int .i64 v] 48)) := (Below.refl _ _).alloc (Nat.le_refl _) _
    replace HB := Lib.hid (HB.out.below hba)
    replace HC := Lib.hid (HC.out.pure hba)
    replace HX := Lib.hid (HX.out.pure hba)
    clear c0 c2 x0 x1 x2 x3
    clear hba
    generalize w5.alloc (.cells #[.int .i64 a, .int .i64 0, .int .i64 t, .int .i64 v] 48) = w6 at HB HC HX HY ⊢
    generalize w5.heap.size = bY at HY ⊢
    obtain ⟨Ah, nh, ch, h1, h2, h4⟩ := HC.out.R
    have HBk := Lib.hid h1
    have HH := Lib.hid h2
    have HGG := Lib.hid h4
    have HLN := Lib.hid h2.1
    have hnb : nh ≤ 1073741823 := by have := HHL.out; have := HLN.out; omega
    clear h1 h2 h4
    have hun : mnGo E.l (d + 1) ⟨p, q, t, v⟩ (flt H) = if (a, t, v) ∈ flt H ∨ t = 4 then some (.ok (flt H)) else if 1 < v ∧ mnFits E.l ⟨p, q, t, v⟩ (v / 2) = true then some (.error a) else mnRest (mnGo E.l d) E.l ⟨p, q, t, v⟩ (flt H ++ [(a, t, v)]) := by
      unfold mnGo mnHere
      simp only [HA.out, HIL.out]
      rw [if_neg (by decide)]
    have HUN := Lib.hid (hun.symm.trans HG.out)
    clear hun HG
    go_wp2_with fail
    go_loopw [7] (fun i wr => ∃ k : Nat, k ≤ nh ∧ i = .int .i64 k ∧ Below w6.heap.size w6 wr ∧ ∀ j y, j < k → H[j]? = some y → y ≠ (a, t, v)) (fun i _ => nh - (intOf i).toNat)
    case atStart => exact ⟨0, by omega, rfl, Below.refl _ _, fun j y hj => absurd hj (Nat.not_lt_zero _)⟩
    case round =>
      obtain ⟨k, hk, rfl, hb, hall⟩ := hrel
      replace HC := Lib.hid (HC.out.pure hb)
      replace HX := Lib.hid (HX.out.pure hb)
      replace HY := Lib.hid (HY.out.pure hb)
      replace HB := Lib.hid (HB.out.below hb)
      replace HBk := Lib.hid (HBk.out.pure hb)
      replace HH := Lib.hid (HH.out.pure hb)
      have HBB := Lib.hid hb
      have HALL := Lib.hid hall
      clear hb hall
      by_cases hkn : k < nh
      · obtain ⟨b2, o2, e2, h2⟩ := ish_at HH.out.is hkn
        subst e2
        obtain ⟨⟨y1, y2, y3⟩, hy⟩ : ∃ y, H[k]? = some y := ⟨_, List.getElem?_eq_getElem (by rw [HLN.out]; exact hkn)⟩
        obtain ⟨a0, a1, a2, a3⟩ := h2 y1 y2 y3 hy
        obtain ⟨r, hr⟩ : ∃ q, decide ((y1, y2, y3) = (a, t, v)) = q := ⟨_, rfl⟩
        have heq := eql_refh a t v y1 y2 y3 r hr
        have HQ := Lib.hid hr
        have HXX := Lib.hid hy
        have hk0 : (0 : Int) ≤ k := by omega
        have hkI : (k : Int) < nh := by omega
        have hwk : IntKind.i64.wrap ((k : Int) + 1) = (k : Int) + 1 := IntWalk.i64_in _ (by omega)
        have d1 : _ = some (Value.slice (some ⟨b2, o2, none⟩) nh ch) := HBk.out.cell 1
        have z0 := cell0 HY.out.1
        have z1 := cell1 HY.out.1
        have z2 := cell2 HY.out.1
        have z3 := cell3 HY.out.1
        clear h2 hy hr
        obtain ⟨wz, rfl⟩ : ∃ wo : World, wo = wr := ⟨_, rfl⟩
        go_wp2_with fail
        go_quiet (fail)
        cases r with
        | true =>
          have hmem : (a, t, v) ∈ H := by
            rw [← of_decide_eq_true HQ.out]
            exact List.mem_of_getElem? HXX.out
          have hres : res = .ok (flt H) := by
            have h := HUN.out
            rw [if_pos (by by_cases h4 : t = 4; exact .inr h4; exact .inl ((flt_mem (y := (a, t, v)) h4).2 hmem))] at h
            injection h with h
            exact h.symm
          subst hres
          have HD := Lib.hid (below_drewN (Below.refl wz.heap.size wz) nq)
          clear hmem
          go_wp2_with fail
          refine bodyPost_ret (results_none rfl _ _ _) rfl ?_
          exact ⟨rfl, g, H, rfl, HLK.out, HC.out.pure HD.out, HB.out.below HD.out⟩
        | false =>
          clear d1 z0 z1 z2 z3 a0 a1 a2 a3
          go_wp2_with fail
          go_roundw
          case rel =>
            refine ⟨k + 1, by omega, by go_num, below_drewN HBB.out _, fun j y' hj hy => ?_⟩
            by_cases e : j = k
            · subst e
              rw [HXX.out] at hy
              injection hy with hy
              subst hy
              exact of_decide_eq_false HQ.out
            · exact HALL.out j y' (by omega) hy
          case measure => simp [intOf]; omega
      · have hkk : k = nh := by omega
        have hno : (a, t, v) ∉ H := by
          intro hm
          obtain ⟨j, hj, e⟩ := List.mem_iff_getElem.1 hm
          have := HLN.out
          exact HALL.out j _ (by omega) (by rw [List.getElem?_eq_getElem hj, e]) rfl
        have HNO := Lib.hid hno
        have hg0 : decide (k < nh) = false := decide_eq_false (by omega)
        clear hno hkn HBB HALL hkk
        have d1 : _ = some (Value.slice Ah nh ch) := HBk.out.cell 1
        have z0 := cell0 HY.out.1
        have z1 := cell1 HY.out.1
        have z2 := cell2 HY.out.1
        have z3 := cell3 HY.out.1
        obtain ⟨wu, rfl⟩ : ∃ wo : World, wo = wr := ⟨_, rfl⟩
        go_upto_region 8 with fail
        go_cut [] from 15 to 130 (fun wx => ∃ wy, wy = wx ∧ RoSeen E g (H ++ [(a, t, v)]) x wu wx)
        case first =>
          have HBD := Lib.hid (below_drew wu)
          have HO1 := Lib.hid ((HH.out.pure HBD.out).pure ((Below.refl _ _).alloc (Nat.le_refl _) (.cells #[.int .i64 a, .int .i64 0, .int .i64 t, .int .i64 v] 48)))
          have HN1 := Lib.hid (show IsH (wu.drew.alloc (.cells #[.int .i64 a, .int .i64 0, .int .i64 t, .int .i64 v] 48)) (some ⟨wu.drew.heap.size, 0, none⟩) 1 [(a, t, v)] from ⟨rfl, fun j u hu => ⟨_, _, rfl, by
            rw [Nat.zero_add, (Blk.new wu.drew _ _).cell j]
            simpa [hcl] using hu⟩⟩)
          have HB1 := Lib.hid (HBD.out.alloc HBD.out.size (.cells #[.int .i64 a, .int .i64 0, .int .i64 t, .int .i64 v] 48))
          have k2 := fun o => lalloc o d1
          have hnw : ¬ ∃ ad, Ah = some ad ∧ E.bw = ad.block := by
            rintro ⟨ad, e, e2⟩
            have := (HH.out.addr ad e).2.1
            have := HC.out.ok.w2
            omega
          have HNW := Lib.hid hnw
          clear hnw
          go_region_law (first
            | (refine step_appH rfl (.tmp 62) (.tmp 64) rfl E.B2 Ah nh ch H rfl HO1.out (some ⟨wu.heap.size, 0, none⟩) 1 1 [(a, t, v)] rfl HN1.out (by omega) (Nat.le_trans HC.out.sz HB1.out.size) ?_; intro A3 c3' w3 hown hfr hat; have HP3 := Lib.hid hown; have HF3 := Lib.hid hfr; have HAT := Lib.hid hat; have HBK3 := Lib.hid ((HBk.out.pure HB1.out).fr hfr HNW.out); have d1_3 : _ = some (Value.slice Ah nh ch) := HBK3.out.cell 1; have f1_3 := HBK3.out.frozen 1; clear hown hfr hat))
          all_goals
            go_wp2_with fail
            go_meet
            refine ⟨_, rfl, ro_see (HC.out.pure HB1.out) (RoTo.of_below HB1.out) (HBk.out.pure HB1.out) (HH.out.pure HB1.out) HGG.out HF3.out ?_ HP3.out⟩
            rcases HAT.out with h | h
            · exact .inl h
            · exact .inr ⟨_, h, Nat.le_refl _⟩
        case rest =>
        obtain ⟨w7, rfl, g1, hC1, hT1⟩ := hcut
        replace HB := Lib.hid (HB.out.trans hT1)
        replace HX := Lib.hid (HX.out.to hT1)
        replace HC := Lib.hid hC1
        clear hC1 hT1 d1 z0 z1 z2 z3 HY HBk HH HGG HLN hg0
        have HLK1 := Lib.hid (lenok_see HLK.out HIN.out HNO.out)
        have c0 := HC.out.c0; have c2 := HC.out.c2; have x0 := cell0 HX.out.1; have x1 := cell1 HX.out.1; have x2 := cell2 HX.out.1; have x3 := cell3 HX.out.1
        by_cases h4 : t = 4
        · have hres : res = .ok (flt H) := by
            have h := HUN.out
            rw [if_pos (.inr h4)] at h
            injection h with h
            exact h.symm
          subst hres
          have e4 : (t == 4) = true := beq_iff_eq.2 h4
          have HF4 := Lib.hid (flt_key H (y := (a, t, v)) h4)
          clear h4
          go_wp2_with fail
          refine bodyPost_ret (results_none rfl _ _ _) rfl ?_
          exact ⟨rfl, g1, _, HF4.out, HLK1.out, HC.out, HB.out⟩
        have e4 : (t == 4) = false := beq_eq_false_iff_ne.mpr h4
        have hr := HUN.out
        rw [if_neg (by rintro (h | h); exact HNO.out ((flt_mem (y := (a, t, v)) h4).1 h); exact h4 h), ← flt_snoc H (y := (a, t, v)) h4] at hr
        have HR := Lib.hid hr
        have hvw : isW v = true := HOK.out.elim (fun h => by have h2 := HIL.out; simp only at h; rw [h2] at h; cases h) (fun h => h.1)
        have HVW := Lib.hid hvw
        have hvv : 1 ≤ v ∧ v ≤ 8 := isw_le hvw
        clear hr HUN HNO h4 hvw
        generalize H ++ [(a, t, v)] = H1 at HC HLK1 HR
        obtain ⟨fs, hfs⟩ : ∃ b, mnFits E.l ⟨p, q, t, v⟩ (v / 2) = b := ⟨_, rfl⟩
        have HFS := Lib.hid hfs
        rw [hfs] at HR
        clear hfs
        go_wp2_with fail
        go_cut [84] from 15 to 130 (fun u84 wx => ∃ wy, wy = wx ∧ u84 = .bool (decide (1 < v ∧ fs = true)) ∧ Below w7.heap.size w7 wx)
        case first =>
          by_cases hv1 : 1 < v
          · have hd1 : decide (1 < v) = true := decide_eq_true hv1
            have hdv : IntKind.i64.wrap (v.tdiv 2) = v / 2 := by rw [Int.tdiv_eq_ediv_of_nonneg (by omega)]; exact IntWalk.i64_in _ (by omega)
            have HSF := Lib.hid (show decide (1 < v ∧ fs = true) = fs by cases fs <;> simp [hv1])
            have HW2 := Lib.hid (show isW (v / 2) = true by rcases isW_iff.1 HVW.out with h | h | h | h <;> subst h <;> first | (exfalso; omega) | decide)
            have HQ := Lib.hid (Below.refl w7.heap.size w7)
            clear HB
            go_region_held3 (fun w' => w'.cell? ⟨E.bw, 0, none⟩ = some (.slice E.A E.n E.c) ∧ (w'.cell? ⟨bR, 0, none⟩ = some (.int .i64 p) ∧ w'.cell? ⟨bR, 1, none⟩ = some (.int .i64 q) ∧ w'.cell? ⟨bR, 2, none⟩ = some (.int .i64 t) ∧ w'.cell? ⟨bR, 3, none⟩ = some (.int .i64 v))) (first | with_reducible exact ⟨c0, x0, x1, x2, x3⟩ | with_reducible exact ⟨ldrew_ c0, ldrew_ x0, ldrew_ x1, ldrew_ x2, ldrew_ x3⟩) (first | (go_at_call 77; (with_reducible refine (rfits30_is E.A E.n E.c p q t v (v / 2) fs E.l _ (HC.out.b.pure (below_drew _)) (by omega) HW2.out HFS.out).mono ?_); rintro e w8 ⟨rfl, hb⟩; have hb2 := pure_trans (below_drew w7) hb; replace HQ := Lib.hid (pure_trans HQ.out hb2); replace HC := Lib.hid (HC.out.pure hb2); replace HX := Lib.hid (HX.out.pure hb2); clear c0 c2 x0 x1 x2 x3; clear hb hb2; have c0 := HC.out.c0; have c2 := HC.out.c2; have x0 := cell0 HX.out.1; have x1 := cell1 HX.out.1; have x2 := cell2 HX.out.1; have x3 := cell3 HX.out.1))
            go_wp2_with fail
            go_meet
            rw [HSF.out]
            exact ⟨_, rfl, rfl, HQ.out⟩
          · have hd1 : decide (1 < v) = false := decide_eq_false hv1
            have HSF := Lib.hid (show decide (1 < v ∧ fs = true) = false from decide_eq_false fun h => hv1 h.1)
            go_quiet (fail)
            go_wp2_with fail
            go_meet
            rw [HSF.out]
            exact ⟨_, rfl, rfl, below_drewN (Below.refl _ _) _⟩
        case rest =>
        obtain ⟨w8, rfl, rfl, hb⟩ := hcut
        replace HB := Lib.hid (HB.out.below hb); replace HC := Lib.hid (HC.out.pure hb); replace HX := Lib.hid (HX.out.pure hb); clear c0 c2 x0 x1 x2 x3; clear hb; have c0 := HC.out.c0; have c2 := HC.out.c2; have x0 := cell0 HX.out.1; have x1 := cell1 HX.out.1; have x2 := cell2 HX.out.1; have x3 := cell3 HX.out.1
        by_cases hc : 1 < v ∧ fs = true
        · have hd : decide (1 < v ∧ fs = true) = true := decide_eq_true hc
          rw [hd]
          have hres : res = .error a := by
            have h := HR.out
            rw [if_pos hc] at h
            injection h with h
            exact h.symm
          subst hres
          clear hc hd
          have f2 := HC.out.frozen 2
          have HN := Lib.hid (HC.out.note a)
          go_wp2_with fail
          refine bodyPost_ret (results_none rfl _ _ _) rfl ?_
          exact ⟨rfl, HA0.out, g1, H1, HN.out.1, HB.out.trans HN.out.2⟩
        have hd : decide (1 < v ∧ fs = true) = false := decide_eq_false hc
        rw [hd]
        have hr := HR.out
        rw [if_neg hc] at hr
        replace HR := Lib.hid hr
        clear hr hc hd HFS
        go_upto_if 91 with fail
        go_cut [8, 9] from 15 to 130 (fun _ _ wx => ∃ wy, wy = wx ∧ RoCut E (mnGo E.l d) ⟨p, q, t, v⟩ (List.range (lsLen E.l p q t v)) res x bR g w wx)
        case first =>
          by_cases h9 : t = 9
          · have e9 : (t == 9) = true := beq_iff_eq.2 h9
            obtain ⟨⟨kp, kq, kt, kv⟩, hkey⟩ : ∃ k, cvKey E.l ⟨p, q, t, v⟩ = k := ⟨_, rfl⟩
            have hkok : MnOk ⟨kp, kq, kt, kv⟩ := hkey ▸ mnok_key E.l ⟨p, q, t, v⟩
            have hr := HR.out
            unfold mnRest at hr
            rw [if_pos h9, hkey] at hr
            have hk := hkey
            unfold cvKey at hk
            simp only [Rq.mk.injEq] at hk
            obtain ⟨hk1, hk2, hk3, hk4⟩ := hk
            obtain ⟨ke, hk5⟩ : ∃ a, kyE E.l p q t v = a := ⟨_, rfl⟩
            have HP := Lib.hid hk1
            have HQQ := Lib.hid hk2
            have HT := Lib.hid hk3
            have HV := Lib.hid hk4
            have HKE := Lib.hid hk5
            have HKOK := Lib.hid hkok
            replace HR := Lib.hid hr
            clear hk1 hk2 hk3 hk4 hk5 hkey hkok hr h9
            go_upto_region 13 with fail
            go_cut [8, 9] (fun u7 u8 wx => ∃ wy, wy = wx ∧ u8 = .int .i64 ke ∧ ∃ k, u7 = .pointer (some ⟨k, 0, none⟩) ∧ Blk wx k 48 #[.int .i64 kp, .int .i64 kq, .int .i64 kt, .int .i64 kv] ∧ w8.heap.size ≤ k ∧ Below w8.heap.size w8 wx)
            case first =>
              have HQ := Lib.hid (Below.refl w8.heap.size w8)
              have HL := Lib.hid HC.out.b
              obtain ⟨Ah, nh, ch, hW, _⟩ := HC.out.R
              have HW := Lib.hid hW
              have HR0 := Lib.hid HX.out.1
              have hn1 : E.bw ≠ w8.heap.size := by have := HW.out.lt; omega
              have hn2 : bR ≠ w8.heap.size := by have := HR0.out.lt; omega
              clear HX HB HC hW
              clear c0 c2 x0 x1 x2 x3
              have c0 : _ = some (Value.slice E.A E.n E.c) := HW.out.cell 0; have x0 := cell0 HR0.out; have x1 := cell1 HR0.out; have x2 := cell2 HR0.out; have x3 := cell3 HR0.out
              go_region_held3 (fun w' => w'.cell? ⟨E.bw, 0, none⟩ = some (.slice E.A E.n E.c) ∧ (w'.cell? ⟨bR, 0, none⟩ = some (.int .i64 p) ∧ w'.cell? ⟨bR, 1, none⟩ = some (.int .i64 q) ∧ w'.cell? ⟨bR, 2, none⟩ = some (.int .i64 t) ∧ w'.cell? ⟨bR, 3, none⟩ = some (.int .i64 v))) ((with_reducible refine ⟨?_, ?_, ?_, ?_, ?_⟩) <;> (repeat (first | with_reducible assumption | with_reducible refine ldrew ?_ | with_reducible refine lalloc _ ?_ | with_reducible refine lsetA ?_ ?_)))
                (first | (go_at_call 78; (first | (with_reducible refine (rfkeys_is E.A E.n E.c p q t v kp kq kt kv ke E.l _ (HL.out.pure HQ.out.drew) (by omega) HP.out HQQ.out HT.out HV.out HKE.out).mono ?_) | (with_reducible refine (rfkeys_is E.A E.n E.c p q t v kp kq kt kv ke E.l _ (HL.out.pure (HQ.out.alloc HQ.out.size _).drew) (by omega) HP.out HQQ.out HT.out HV.out HKE.out).mono ?_)); rintro e w3 ⟨rfl, hb⟩; (first | (with_reducible replace HQ := Lib.hid (pure_below HQ.out.drew hb)) | ((with_reducible have HK := Lib.hid ((Blk.new w8 48 #[.int .i64 0, .int .i64 0, .int .i64 0, .int .i64 0]).drew.pure hb)); (with_reducible replace HQ := Lib.hid (pure_below (HQ.out.alloc HQ.out.size _).drew hb)); have q0 := cell0 HK.out; have q1 := cell1 HK.out; have q2 := cell2 HK.out; have q3 := cell3 HK.out; have p0 := HK.out.frozen 0; have p1 := HK.out.frozen 1; have p2 := HK.out.frozen 2; have p3 := HK.out.frozen 3)); replace HW := Lib.hid (HW.out.pure HQ.out); replace HR0 := Lib.hid (HR0.out.pure HQ.out); clear c0 x0 x1 x2 x3; have c0 : _ = some (Value.slice E.A E.n E.c) := HW.out.cell 0; have x0 := cell0 HR0.out; have x1 := cell1 HR0.out; have x2 := cell2 HR0.out; have x3 := cell3 HR0.out; have hn3 : E.bw ≠ w3.heap.size := (by have := HW.out.lt; omega); have hn4 : bR ≠ w3.heap.size := (by have := HR0.out.lt; omega); clear hb))
              all_goals
                go_wp2_with fail
                go_meet
                first
                  | with_reducible exact ⟨_, rfl, rfl, _, rfl, Blk.new _ _ _, HQ.out.size, HQ.out.alloc HQ.out.size _⟩
                  | exact ⟨_, rfl, rfl, _, rfl, (((HK.out.set_ 0 _).set_ 1 _).set_ 2 _).set_ 3 _, Nat.le_refl _, below_set4 _ HQ.out (Nat.le_refl _) _ _ _ _⟩
            case rest =>
            obtain ⟨w3, rfl, rfl, bk, rfl, hK, hbk, hb⟩ := hcut
            have HK := Lib.hid hK
            replace HB := Lib.hid (HB.out.below hb); replace HC := Lib.hid (HC.out.pure hb); replace HX := Lib.hid (HX.out.pure hb); clear c0 c2 x0 x1 x2 x3; clear hb; have c0 := HC.out.c0; have c2 := HC.out.c2; have x0 := cell0 HX.out.1; have x1 := cell1 HX.out.1; have x2 := cell2 HX.out.1; have x3 := cell3 HX.out.1
            clear hK hbk
            have k0 := cell0 HK.out
            have k1 := cell1 HK.out
            have k2 := cell2 HK.out
            have k3 := cell3 HK.out
            cases hg : mnGo E.l d ⟨kp, kq, kt, kv⟩ (flt H1) with
            | none =>
              have h := HR.out
              rw [hg] at h
              cases h
            | some r1 =>
              have hr := HR.out
              rw [hg] at hr
              have HCM := Lib.hid (HIH.out g1 H1 x kp kq kt kv r1 w3 HC.out hx HLK1.out HKOK.out hg)
              replace HR := Lib.hid hr
              clear hr hg
              go_wp2_with fail
              go_at_call 40
              refine HCM.out.mono ?_
              clear k0 k1 k2 k3
              cases r1 with
              | error a1 =>
                rintro e w9 ⟨rfl, ha1, g2, H2, hC2, hT2⟩
                have hres : res = .error a1 := by
                  have h := HR.out
                  injection h with h
                  exact h.symm
                subst hres
                have HO := Lib.hid (show RoCut E (mnGo E.l d) ⟨p, q, t, v⟩ (List.range (lsLen E.l p q t v)) (.error a1) x bR g w w9 from ⟨g2, H2, a1, hC2, HB.out.trans hT2, HX.out.to hT2, .inr ⟨ha1, rfl⟩⟩)
                clear c0 c2 x0 x1 x2 x3
                clear hC2 hT2 HB HX HC HR HCM
                go_wp2_with fail
                go_meet
                exact ⟨_, rfl, HO.out⟩
              | ok h2 =>
                rintro e w9 ⟨rfl, g2, H2, hf2, hl2, hC2, hT2⟩
                have HO := Lib.hid (show RoCut E (mnGo E.l d) ⟨p, q, t, v⟩ (List.range (lsLen E.l p q t v)) res x bR g w w9 from ⟨g2, H2, x, hC2, HB.out.trans hT2, HX.out.to hT2, .inl ⟨rfl, hl2, by rw [hf2]; exact HR.out⟩⟩)
                clear c0 c2 x0 x1 x2 x3
                clear hC2 hT2 hf2 hl2 HB HX HC HR HCM
                go_wp2_with fail
                go_meet
                exact ⟨_, rfl, HO.out⟩
          · have e9 : (t == 9) = false := beq_eq_false_iff_ne.mpr h9
            have hr := HR.out
            unfold mnRest at hr
            rw [if_neg h9] at hr
            have HO := Lib.hid (show RoCut E (mnGo E.l d) ⟨p, q, t, v⟩ (List.range (lsLen E.l p q t v)) res x bR g w w8 from ⟨g1, H1, x, HC.out, HB.out, HX.out, .inl ⟨rfl, HLK1.out, hr⟩⟩)
            clear hr h9
            go_wp2_with fail
            go_meet
            exact ⟨_, rfl, HO.out⟩
        case rest =>
        clear c0 c2 x0 x1 x2 x3
        obtain ⟨w9, rfl, g2, H2, xx, hC, hT, hX, hM⟩ := hcut
        replace HC := Lib.hid hC
        replace HB := Lib.hid hT
        replace HX := Lib.hid hX
        have HM := Lib.hid hM
        clear hC hT hX hM HR HLK1
        obtain ⟨N, hN⟩ : ∃ N, lsLen E.l p q t v = N := ⟨_, rfl⟩
        obtain ⟨el, hel⟩ : ∃ N, lsE E.l p q t v = N := ⟨_, rfl⟩
        have hNl := lsLen_le E.l p q t v
        rw [hN] at hNl HM
        have hN1 : N ≤ 1000000 := by omega
        have HNI := Lib.hid (show (lsLen E.l p q t v : Int) = (N : Int) by rw [hN])
        have HEL := Lib.hid hel
        clear hN hel hNl
        have c0 := HC.out.c0; have c2 := HC.out.c2; have x0 := cell0 HX.out.1; have x1 := cell1 HX.out.1; have x2 := cell2 HX.out.1; have x3 := cell3 HX.out.1
        go_wp2_with fail
        go_region_held3 (fun w' => w'.cell? ⟨E.bw, 0, none⟩ = some (.slice E.A E.n E.c) ∧ (w'.cell? ⟨bR, 0, none⟩ = some (.int .i64 p) ∧ w'.cell? ⟨bR, 1, none⟩ = some (.int .i64 q) ∧ w'.cell? ⟨bR, 2, none⟩ = some (.int .i64 t) ∧ w'.cell? ⟨bR, 3, none⟩ = some (.int .i64 v))) (first | with_reducible exact ⟨c0, x0, x1, x2, x3⟩ | with_reducible exact ⟨ldrew_ c0, ldrew_ x0, ldrew_ x1, ldrew_ x2, ldrew_ x3⟩) (first | (go_at_call 79; (with_reducible refine (rlen_is E.A E.n E.c p q t v N el E.l _ HC.out.drew.b (by omega) HNI.out HEL.out).mono ?_); rintro e w5 ⟨rfl, hb⟩; replace HB := Lib.hid (HB.out.drew.below hb); replace HC := Lib.hid (HC.out.drew.pure hb); replace HX := Lib.hid (HX.out.drew.pure hb); clear c0 c2 x0 x1 x2 x3; clear hb; have c0 := HC.out.c0; have c2 := HC.out.c2; have x0 := cell0 HX.out.1; have x1 := cell1 HX.out.1; have x2 := cell2 HX.out.1; have x3 := cell3 HX.out.1))
        go_wp2_with fail
        clear c0 c2 x0 x1 x2 x3
        go_loopw [12] (fun u wr => ∃ k : Nat, u = .int .i64 k ∧ k ≤ N ∧ RoCut E (mnGo E.l d) ⟨p, q, t, v⟩ ((List.range N).drop k) res x bR g w wr) (fun u _ => N - (intOf u).toNat)
        case atStart => exact ⟨0, rfl, Nat.zero_le _, g2, H2, xx, HC.out, HB.out, HX.out, by rw [List.drop_zero]; exact HM.out⟩
        case round =>
          clear HC HB HX HM
          obtain ⟨k, rfl, hkN, g3, H3, xv, hC, hT, hX, hM⟩ := hrel
          have HC := Lib.hid hC
          have HB := Lib.hid hT
          have HX := Lib.hid hX
          have HM := Lib.hid hM
          clear hC hT hX hM
          obtain ⟨wv, rfl⟩ : ∃ wo : World, wo = wr := ⟨_, rfl⟩
          have c0 := HC.out.c0; have c2 := HC.out.c2; have x0 := cell0 HX.out.1; have x1 := cell1 HX.out.1; have x2 := cell2 HX.out.1; have x3 := cell3 HX.out.1
          by_cases hk : k < N
          · obtain ⟨⟨kp, kq, kt, kv⟩, hat⟩ : ∃ y, cvAt E.l ⟨p, q, t, v⟩ k = y := ⟨_, rfl⟩
            have hkok : MnOk ⟨kp, kq, kt, kv⟩ := hat ▸ mnok_at E.l ⟨p, q, t, v⟩ HVW.out k
            have hk' := hat
            unfold cvAt at hk'
            simp only [Rq.mk.injEq] at hk'
            obtain ⟨hk1, hk2, hk3, hk4⟩ := hk'
            obtain ⟨ke, hk5⟩ : ∃ a, atE E.l p q t v k = a := ⟨_, rfl⟩
            have hwk : IntKind.i64.wrap ((k : Int) + 1) = (k : Int) + 1 := IntWalk.i64_in _ (by omega)
            have HP := Lib.hid hk1
            have HQQ := Lib.hid hk2
            have HT := Lib.hid hk3
            have HV := Lib.hid hk4
            have HKE := Lib.hid hk5
            have HKOK := Lib.hid hkok
            have HAT := Lib.hid hat
            clear hk1 hk2 hk3 hk4 hk5 hat hkok
            go_upto_region 19 with fail
            go_cut [13, 14] (fun u7 u8 wx => ∃ wy, wy = wx ∧ u8 = .int .i64 ke ∧ ∃ k, u7 = .pointer (some ⟨k, 0, none⟩) ∧ Blk wx k 48 #[.int .i64 kp, .int .i64 kq, .int .i64 kt, .int .i64 kv] ∧ wv.heap.size ≤ k ∧ Below wv.heap.size wv wx)
            case first =>
              have HQ := Lib.hid (Below.refl wv.heap.size wv)
              have HL := Lib.hid HC.out.b
              obtain ⟨Ah, nh, ch, hW, _⟩ := HC.out.R
              have HW := Lib.hid hW
              have HR0 := Lib.hid HX.out.1
              have hn1 : E.bw ≠ wv.heap.size := by have := HW.out.lt; omega
              have hn2 : bR ≠ wv.heap.size := by have := HR0.out.lt; omega
              clear HX HB HC hW
              clear c0 c2 x0 x1 x2 x3
              have c0 : _ = some (Value.slice E.A E.n E.c) := HW.out.cell 0; have x0 := cell0 HR0.out; have x1 := cell1 HR0.out; have x2 := cell2 HR0.out; have x3 := cell3 HR0.out
              go_region_held3 (fun w' => w'.cell? ⟨E.bw, 0, none⟩ = some (.slice E.A E.n E.c) ∧ (w'.cell? ⟨bR, 0, none⟩ = some (.int .i64 p) ∧ w'.cell? ⟨bR, 1, none⟩ = some (.int .i64 q) ∧ w'.cell? ⟨bR, 2, none⟩ = some (.int .i64 t) ∧ w'.cell? ⟨bR, 3, none⟩ = some (.int .i64 v))) ((with_reducible refine ⟨?_, ?_, ?_, ?_, ?_⟩) <;> (repeat (first | with_reducible assumption | with_reducible refine ldrew ?_ | with_reducible refine lalloc _ ?_ | with_reducible refine lsetA ?_ ?_)))
                (first | (go_at_call 80; (first | (with_reducible refine (rat_is E.A E.n E.c p q t v k kp kq kt kv ke E.l _ (HL.out.pure HQ.out.drew) (by omega) HP.out HQQ.out HT.out HV.out HKE.out).mono ?_) | (with_reducible refine (rat_is E.A E.n E.c p q t v k kp kq kt kv ke E.l _ (HL.out.pure (HQ.out.alloc HQ.out.size _).drew) (by omega) HP.out HQQ.out HT.out HV.out HKE.out).mono ?_)); rintro e w3 ⟨rfl, hb⟩; (first | (with_reducible replace HQ := Lib.hid (pure_below HQ.out.drew hb)) | ((with_reducible have HK := Lib.hid ((Blk.new wv 48 #[.int .i64 0, .int .i64 0, .int .i64 0, .int .i64 0]).drew.pure hb)); (with_reducible replace HQ := Lib.hid (pure_below (HQ.out.alloc HQ.out.size _).drew hb)); have q0 := cell0 HK.out; have q1 := cell1 HK.out; have q2 := cell2 HK.out; have q3 := cell3 HK.out; have p0 := HK.out.frozen 0; have p1 := HK.out.frozen 1; have p2 := HK.out.frozen 2; have p3 := HK.out.frozen 3)); replace HW := Lib.hid (HW.out.pure HQ.out); replace HR0 := Lib.hid (HR0.out.pure HQ.out); clear c0 x0 x1 x2 x3; have c0 : _ = some (Value.slice E.A E.n E.c) := HW.out.cell 0; have x0 := cell0 HR0.out; have x1 := cell1 HR0.out; have x2 := cell2 HR0.out; have x3 := cell3 HR0.out; have hn3 : E.bw ≠ w3.heap.size := (by have := HW.out.lt; omega); have hn4 : bR ≠ w3.heap.size := (by have := HR0.out.lt; omega); clear hb))
              all_goals
                go_wp2_with fail
                go_meet
                first
                  | with_reducible exact ⟨_, rfl, rfl, _, rfl, Blk.new _ _ _, HQ.out.size, HQ.out.alloc HQ.out.size _⟩
                  | exact ⟨_, rfl, rfl, _, rfl, (((HK.out.set_ 0 _).set_ 1 _).set_ 2 _).set_ 3 _, Nat.le_refl _, below_set4 _ HQ.out (Nat.le_refl _) _ _ _ _⟩
            case rest =>
            obtain ⟨w3, rfl, rfl, bk, rfl, hK, hbk, hb⟩ := hcut
            have HK := Lib.hid hK
            replace HB := Lib.hid (HB.out.below hb); replace HC := Lib.hid (HC.out.pure hb); replace HX := Lib.hid (HX.out.pure hb); clear c0 c2 x0 x1 x2 x3; clear hb; have c0 := HC.out.c0; have c2 := HC.out.c2; have x0 := cell0 HX.out.1; have x1 := cell1 HX.out.1; have x2 := cell2 HX.out.1; have x3 := cell3 HX.out.1
            clear hK hbk
            have k0 := cell0 HK.out
            have k1 := cell1 HK.out
            have k2 := cell2 HK.out
            have k3 := cell3 HK.out
            go_wp2_with fail
            go_at_call 40
            rcases HM.out with ⟨hx3, hl3, hme⟩ | ⟨hx3, hres⟩
            · rw [range_drop hk] at hme
              unfold mnEach at hme
              rw [HAT.out] at hme
              cases hg : mnGo E.l d ⟨kp, kq, kt, kv⟩ (flt H3) with
              | none => rw [hg] at hme; cases hme
              | some r1 =>
                rw [hg] at hme
                refine (HIH.out g3 H3 xv kp kq kt kv r1 w3 HC.out (by omega) hl3 HKOK.out hg).mono ?_
                have HME := Lib.hid hme
                clear k0 k1 k2 k3 hme hg
                cases r1 with
                | error a1 =>
                  rintro e w4 ⟨rfl, ha1, g4, H4, hC2, hT2⟩
                  have hres : res = .error a1 := by
                    have h := HME.out
                    injection h with h
                    exact h.symm
                  have HO := Lib.hid (show RoCut E (mnGo E.l d) ⟨p, q, t, v⟩ ((List.range N).drop (k + 1)) res x bR g w w4 from ⟨g4, H4, a1, hC2, HB.out.trans hT2, HX.out.to hT2, .inr ⟨ha1, hres⟩⟩)
                  clear c0 c2 x0 x1 x2 x3
                  clear hC2 hT2 HB HX HC HM HK hres HME
                  go_wp2_with fail
                  go_roundw
                  case rel => exact ⟨k + 1, by go_num, hk, HO.out⟩
                  case measure => simp [intOf]; omega
                | ok h' =>
                  rintro e w4 ⟨rfl, g4, H4, hf4, hl4, hC2, hT2⟩
                  have HO := Lib.hid (show RoCut E (mnGo E.l d) ⟨p, q, t, v⟩ ((List.range N).drop (k + 1)) res x bR g w w4 from ⟨g4, H4, xv, hC2, HB.out.trans hT2, HX.out.to hT2, .inl ⟨hx3, hl4, by rw [hf4]; exact HME.out⟩⟩)
                  clear c0 c2 x0 x1 x2 x3
                  clear hC2 hT2 HB HX HC HM HK hf4 hl4 HME
                  go_wp2_with fail
                  go_roundw
                  case rel => exact ⟨k + 1, by go_num, hk, HO.out⟩
                  case measure => simp [intOf]; omega
            · refine (ro_done E g3 H3 xv kp kq kt kv w3 HC.out hx3).mono ?_
              clear k0 k1 k2 k3
              rintro e w4 ⟨rfl, hb⟩
              have HO := Lib.hid (show RoCut E (mnGo E.l d) ⟨p, q, t, v⟩ ((List.range N).drop (k + 1)) res x bR g w w4 from ⟨g3, H3, xv, HC.out.pure hb, HB.out.below hb, HX.out.pure hb, .inr ⟨hx3, hres⟩⟩)
              clear c0 c2 x0 x1 x2 x3
              clear hb HB HX HC HM HK hres
              go_wp2_with fail
              go_roundw
              case rel => exact ⟨k + 1, by go_num, hk, HO.out⟩
              case measure => simp [intOf]; omega
          · have hkk : k = N := by omega
            have hout : RoOut E g x w wv res := by
              subst hkk
              rcases HM.out with ⟨hx3, hl3, hme⟩ | ⟨hx3, hres⟩
              · rw [List.drop_eq_nil_of_le (by rw [List.length_range]; exact Nat.le_refl _)] at hme
                unfold mnEach at hme
                injection hme with hme
                subst hme
                exact ⟨g3, H3, rfl, hl3, hx3 ▸ HC.out, HB.out⟩
              · subst hres
                exact ⟨hx3, g3, H3, HC.out, HB.out⟩
            have HO := Lib.hid hout
            have hd : decide (k < N) = false := decide_eq_false (by omega)
            clear hk hkk hout HC HB HX HM
            clear c0 c2 x0 x1 x2 x3
            go_wp2_with fail
            go_end0
            exact ⟨rfl, HO.out⟩
theorem ro_all (E : RoE) : ∀ d, RoAt E (mnGo E.l d)
  | 0 => fun _ _ _ _ _ _ _ _ _ _ _ _ _ h => by cases h
  | d + 1 => ro_step E d (ro_all E d)
end Go.Proofs.YtejalfjeihlpeaaGreat
