/-
  Package cover: the keys of a map.
-/
import Derived.Test.YtejalfjeihlpeaaGreatQ24
namespace Go.Proofs.YtejalfjeihlpeaaGreat
open Go.RowKit Go.Acc
/-- The bytes of a reference are within the document. -/
def RqOk (n : Nat) (r : Rq) : Prop := 0 ≤ r.p ∧ 1 ≤ r.q ∧ r.q ≤ 8 ∧ r.p + r.q ≤ n
theorem may_ok {n : Nat} {p q t v : Int} (h : mayE n p q t v = 0) : RqOk n ⟨p, q, t, v⟩ ∧ 1 ≤ v ∧ v ≤ 8 := by
  obtain ⟨h1, h2⟩ := mayE_ok.1 h
  have h2 := inB_iff.1 h2
  have hq := isW_iff.1 (formed_iff.1 h1).2.1
  have hv := isW_iff.1 (formed_iff.1 h1).2.2
  refine ⟨⟨h2.1, ?_, ?_, h2.2.2⟩, ?_, ?_⟩ <;> (first | omega | (simp only; omega))
theorem ls_may {l : List UInt8} {p q t v : Int} (h : lsE l p q t v = 0) : mayE l.length p q t v = 0 := by
  rcases ls_cases l p q t v with ⟨g, e⟩ | ⟨g, _⟩
  · rw [e] at h; exact absurd h g
  · exact g
theorem ls_head {l : List UInt8} {p q t v : Int} (h : lsE l p q t v = 0) : lsFrom l p q t v + aheadT t * v.toNat = lsAt l p q t v := by
  unfold lsFrom lsAt
  rw [if_pos h, if_pos h]
  rcases ls_cases l p q t v with ⟨_, e⟩ | ⟨_, ⟨_, e⟩ | ⟨_, ⟨_, e⟩ | ⟨_, ⟨_, e⟩ | ⟨_, _, e⟩ | ⟨_, _, _, e⟩ | ⟨_, h5, _, _⟩⟩⟩⟩
  · rw [e] at h; exact absurd h (by assumption)
  · rw [e] at h; cases h
  · rw [e] at h; exact absurd h (by assumption)
  · rw [e] at h; cases h
  · rw [e] at h; cases h
  · rw [e] at h; cases h
  · omega
theorem ls_room {l : List UInt8} {p q t v : Int} (h : lsE l p q t v = 0) : 1 ≤ v ∧ v ≤ 8 ∧ lsFrom l p q t v + aheadT t * v.toNat = lsAt l p q t v ∧ lsAt l p q t v + lsLen l p q t v * (v.toNat + tgs t) ≤ l.length :=
  ⟨(may_ok (ls_may h)).2.1, (may_ok (ls_may h)).2.2, ls_head h, (ls_ok h).2.2.2.1⟩
theorem ky_ok {l : List UInt8} {p q t v : Int} (h : kyE l p q t v = 0) : t = 9 ∧ lsE l p q t v = 0 ∧ RqOk l.length (cvKey l ⟨p, q, t, v⟩) ∧ (lsFrom l p q t v : Int) + 3 * v ≤ l.length ∧ 1 ≤ v ∧ v ≤ 8 := by
  rcases ky_cases l p q t v with ⟨g, e⟩ | ⟨_, ⟨_, e⟩ | ⟨ht, ⟨g, e⟩ | ⟨hl, _⟩⟩⟩
  · rw [e] at h; exact absurd h g
  · rw [e] at h; cases h
  · rw [e] at h; exact absurd h g
  obtain ⟨h1, h2, h3, h4⟩ := ls_room hl
  have ha : aheadT t = 3 := by rw [ht]; rfl
  rw [ha] at h3
  have h5 : (lsFrom l p q t v : Int) + 3 * v ≤ l.length := by omega
  refine ⟨ht, hl, ?_, h5, h1, h2⟩
  unfold RqOk cvKey kyP kyQ
  simp only [if_pos h]
  omega
theorem CvW.newer {E : CvE} {g : Option Nat} {s : CvS} {w : World} (h : CvW E g s w) {k : Nat} (hk : w.heap.size ≤ k) : E.Free g k := by
  have := h.sz
  have := h.ok.l2
  have := h.ok.m2
  have := h.ok.w2
  refine ⟨by omega, by omega, by omega, fun e => ?_⟩
  have := (h.O.row _ e).2
  omega
/-- What the proof of a visit hands to the visits below it: d is greater than the fuel left. -/
def ComesAt (E : CvE) (go : Rq → CvS → CvS × Int) (d : Nat) : Prop := ∀ (g : Option Nat) (s : CvS) (p q t v : Int) (w : World), CvW E g s w → s.left.toNat < d → s.size ≤ 900000000 → RqOk E.l.length ⟨p, q, t, v⟩ →
  Calls Tryz.prog 27 #[.pointer (some ⟨E.bw, 0, none⟩), .agg #[.int .i64 p, .int .i64 q, .int .i64 t, .int .i64 v]] w (CvRes E g w (go ⟨p, q, t, v⟩ s))
theorem size_out (s : CvS) : s.out.length ≤ s.size := by unfold CvS.size; omega
set_option maxRecDepth 100000 in
set_option maxHeartbeats 2000000 in
theorem cvkeys_spec (E : CvE) (go : Rq → CvS → CvS × Int) (d : Nat) (hgo : ComesAt E go d) (hgoes : Goes go) (g : Option Nat) (s : CvS) (p q t v f : Int) (w : World) (h : CvW E g s w) (hd : s.left.toNat < d) (hs : s.size ≤ 900000000) (hf : (lsFrom E.l p q t v : Int) = f) :
    Calls Tryz.prog 92 #[.pointer (some ⟨E.bw, 0, none⟩), .agg #[.int .i64 p, .int .i64 q, .int .i64 t, .int .i64 v], .int .i64 f] w (CvRes E g w (cvKeys E.l go ⟨p, q, t, v⟩ s)) := by
  have HC := Lib.hid (h.alloc (.cells #[.int .i64 p, .int .i64 q, .int .i64 t, .int .i64 v] 48))
  have HX := Lib.hid (h.lone 48 #[.int .i64 p, .int .i64 q, .int .i64 t, .int .i64 v])
  have HB := Lib.hid ((CvTo.refl E g w).alloc (.cells #[.int .i64 p, .int .i64 q, .int .i64 t, .int .i64 v] 48))
  have HGO := Lib.hid hgo
  have HGS := Lib.hid hgoes
  obtain ⟨kp, hk1⟩ : ∃ a, kyP E.l p q t v = a := ⟨_, rfl⟩
  obtain ⟨kq, hk2⟩ : ∃ a, kyQ E.l p q t v = a := ⟨_, rfl⟩
  obtain ⟨kt, hk3⟩ : ∃ a, kyT E.l p q t v = a := ⟨_, rfl⟩
  obtain ⟨kv, hk4⟩ : ∃ a, kyV E.l p q t v = a := ⟨_, rfl⟩
  obtain ⟨er, he⟩ : ∃ a, kyE E.l p q t v = a := ⟨_, rfl⟩
  have HP := Lib.hid hk1
  have HQQ := Lib.hid hk2
  have HT := Lib.hid hk3
  have HV := Lib.hid hk4
  have HEE := Lib.hid he
  have HF := Lib.hid hf
  have hcc := h.ok.hc
  have hnn := h.ok.hn
  have hlen := h.len
  clear h hk1 hk2 hk3 hk4 he hf hgo hgoes
  go_enter Tryz.func92, Tryz.ntmps92
  go_upto_region 1 with fail
  generalize w.alloc (.cells #[.int .i64 p, .int .i64 q, .int .i64 t, .int .i64 v] 48) = w1 at HC HX HB ⊢
  go_cut [7, 8] (fun u7 u8 wx => ∃ wy, wy = wx ∧ u8 = .int .i64 er ∧ ∃ k, u7 = .pointer (some ⟨k, 0, none⟩) ∧ Blk wx k 48 #[.int .i64 kp, .int .i64 kq, .int .i64 kt, .int .i64 kv] ∧ w1.heap.size ≤ k ∧ Below w1.heap.size w1 wx)
  case first =>
    have HQ := Lib.hid (Below.refl w1.heap.size w1)
    have HL := Lib.hid HC.out.b
    have HW := Lib.hid HC.out.W
    have HR := Lib.hid HX.out.1
    have hn1 : E.bw ≠ w1.heap.size := by have := HW.out.lt; omega
    have hn2 : w.heap.size ≠ w1.heap.size := by have := HR.out.lt; omega
    clear HX HB HC
    have c0 : _ = some (Value.slice E.A E.n E.c) := HW.out.cell 0; have x0 := cell0 HR.out; have x1 := cell1 HR.out; have x2 := cell2 HR.out; have x3 := cell3 HR.out
    go_region_held3 (fun w' => w'.cell? ⟨E.bw, 0, none⟩ = some (.slice E.A E.n E.c) ∧ (w'.cell? ⟨w.heap.size, 0, none⟩ = some (.int .i64 p) ∧ w'.cell? ⟨w.heap.size, 1, none⟩ = some (.int .i64 q) ∧ w'.cell? ⟨w.heap.size, 2, none⟩ = some (.int .i64 t) ∧ w'.cell? ⟨w.heap.size, 3, none⟩ = some (.int .i64 v))) ((with_reducible refine ⟨?_, ?_, ?_, ?_, ?_⟩) <;> (repeat (first | with_reducible assumption | with_reducible refine ldrew ?_ | with_reducible refine lalloc _ ?_ | with_reducible refine lsetA ?_ ?_)))
      (first | (go_at_call 73; (first | (with_reducible refine (fkeys_is E.A E.n E.c p q t v kp kq kt kv er E.l _ (HL.out.pure HQ.out.drew) hcc (by omega) HP.out HQQ.out HT.out HV.out HEE.out).mono ?_) | (with_reducible refine (fkeys_is E.A E.n E.c p q t v kp kq kt kv er E.l _ (HL.out.pure (HQ.out.alloc HQ.out.size _).drew) hcc (by omega) HP.out HQQ.out HT.out HV.out HEE.out).mono ?_)); rintro e w3 ⟨rfl, hb⟩; (first | (with_reducible replace HQ := Lib.hid (pure_below HQ.out.drew hb)) | ((with_reducible have HK := Lib.hid ((Blk.new w1 48 #[.int .i64 0, .int .i64 0, .int .i64 0, .int .i64 0]).drew.pure hb)); (with_reducible replace HQ := Lib.hid (pure_below (HQ.out.alloc HQ.out.size _).drew hb)); have q0 := cell0 HK.out; have q1 := cell1 HK.out; have q2 := cell2 HK.out; have q3 := cell3 HK.out; have p0 := HK.out.frozen 0; have p1 := HK.out.frozen 1; have p2 := HK.out.frozen 2; have p3 := HK.out.frozen 3)); replace HW := Lib.hid (HW.out.pure HQ.out); replace HR := Lib.hid (HR.out.pure HQ.out); clear c0 x0 x1 x2 x3; have c0 : _ = some (Value.slice E.A E.n E.c) := HW.out.cell 0; have x0 := cell0 HR.out; have x1 := cell1 HR.out; have x2 := cell2 HR.out; have x3 := cell3 HR.out; have hn3 : E.bw ≠ w3.heap.size := (by have := HW.out.lt; omega); have hn4 : w.heap.size ≠ w3.heap.size := (by have := HR.out.lt; omega); clear hb))
    all_goals
      go_wp2_with fail
      go_meet
      first
        | with_reducible exact ⟨_, rfl, rfl, _, rfl, Blk.new _ _ _, HQ.out.size, HQ.out.alloc HQ.out.size _⟩
        | exact ⟨_, rfl, rfl, _, rfl, (((HK.out.set_ 0 _).set_ 1 _).set_ 2 _).set_ 3 _, Nat.le_refl _, below_set4 _ HQ.out (Nat.le_refl _) _ _ _ _⟩
  case rest =>
  obtain ⟨w3, rfl, rfl, k, rfl, hK, hk, hb⟩ := hcut
  have HK := Lib.hid (show Lone E g w3 k 48 #[.int .i64 kp, .int .i64 kq, .int .i64 kt, .int .i64 kv] from ⟨hK, HC.out.newer hk⟩)
  replace HC := Lib.hid (HC.out.pure hb)
  replace HX := Lib.hid (HX.out.pure hb)
  replace HB := Lib.hid (HB.out.below hb)
  clear hK hk hb
  by_cases he : er = 0
  · subst he
    obtain ⟨ht, hl, hok, hle, hv1, hv8⟩ := ky_ok HEE.out
    subst ht
    have k0 := cell0 HK.out.1
    have k1 := cell1 HK.out.1
    have k2 := cell2 HK.out.1
    have k3 := cell3 HK.out.1
    have HOK := Lib.hid (show RqOk E.l.length ⟨kp, kq, kt, kv⟩ by have := hok; unfold cvKey at this; rw [HP.out, HQQ.out, HT.out, HV.out] at this; exact this)
    have hek : cvKey E.l ⟨p, q, 9, v⟩ = ⟨kp, kq, kt, kv⟩ := by unfold cvKey; rw [HP.out, HQQ.out, HT.out, HV.out]
    have hun : cvKeys E.l go ⟨p, q, 9, v⟩ s = if (go ⟨kp, kq, kt, kv⟩ s).2 ≠ 0 then go ⟨kp, kq, kt, kv⟩ s else ((go ⟨kp, kq, kt, kv⟩ s).1.tell (f + v) (f + 2 * v) 7, 0) := by
      unfold cvKeys
      rw [HEE.out, if_neg (by decide), hek, HF.out]
    obtain ⟨y, hy⟩ : ∃ y, go ⟨kp, kq, kt, kv⟩ s = y := ⟨_, rfl⟩
    rw [hy] at hun
    have hys : y.1.out.length ≤ 900000000 := by
      have h1 := (HGS.out ⟨kp, kq, kt, kv⟩ s).1.2
      rw [hy] at h1
      have := size_out y.1
      omega
    have HY := Lib.hid hy
    have HUN := Lib.hid hun
    have hf0 : 0 ≤ f := by have := HF.out; omega
    have hf1 : f ≤ 4294967296 := by have := HF.out; omega
    have hcomes := HGO.out g s kp kq kt kv w3 HC.out hd hs HOK.out
    rw [hy] at hcomes
    have HCM := Lib.hid hcomes
    clear hok hek hun hy hcomes hl hle
    go_wp2_with fail
    go_at_call 27
    refine HCM.out.mono ?_
    rintro e w4 ⟨rfl, g4, hC4, hT4⟩
    replace HB := Lib.hid (HB.out.trans hT4)
    replace HX := Lib.hid (HX.out.to hT4)
    replace HC := Lib.hid hC4
    clear HK hC4 hT4 HCM k0 k1 k2 k3
    by_cases hy0 : y.2 = 0
    · have h1 := HUN.out
      rw [hy0, if_neg (by decide)] at h1
      rw [hy0]
      replace HUN := Lib.hid h1
      clear h1 hy0
      obtain ⟨c0, c1, c2, c3⟩ := HC.out.cells; have x0 := cell0 HX.out.1; have x1 := cell1 HX.out.1; have x2 := cell2 HX.out.1; have x3 := cell3 HX.out.1
      have w1 : IntKind.i64.wrap (f + v) = f + v := IntWalk.i64_in _ (by omega)
      have w2 : IntKind.i64.wrap (2 * v) = 2 * v := IntWalk.i64_in _ (by omega)
      have w3 : IntKind.i64.wrap (f + 2 * v) = f + 2 * v := IntWalk.i64_in _ (by omega)
      go_wp2_with fail
      go_region_held3 (fun w' => w'.cell? ⟨E.bw, 0, none⟩ = some (.slice E.A E.n E.c) ∧ w'.cell? ⟨E.bw, 3, none⟩ = some (.func (.func 26) #[] #[.pointer (some ⟨E.bl, 0, none⟩)]) ∧ (w'.cell? ⟨w.heap.size, 0, none⟩ = some (.int .i64 p) ∧ w'.cell? ⟨w.heap.size, 1, none⟩ = some (.int .i64 q) ∧ w'.cell? ⟨w.heap.size, 2, none⟩ = some (.int .i64 9) ∧ w'.cell? ⟨w.heap.size, 3, none⟩ = some (.int .i64 v))) (first | with_reducible exact ⟨c0, c3, x0, x1, x2, x3⟩ | with_reducible exact ⟨ldrew_ c0, ldrew_ c3, ldrew_ x0, ldrew_ x1, ldrew_ x2, ldrew_ x3⟩) (first | (go_at_call 26; (with_reducible refine (tell_cv (f + v) (f + 2 * v) 7 HC.out.drew (by omega)).mono ?_); rintro e w2 ⟨rfl, g2, hC2, hT2⟩; replace HB := Lib.hid (HB.out.drew.trans hT2); replace HX := Lib.hid (HX.out.drew.to hT2); replace HC := Lib.hid hC2; clear c0 c1 c2 c3 x0 x1 x2 x3; clear hC2 hT2; obtain ⟨c0, c1, c2, c3⟩ := HC.out.cells; have x0 := cell0 HX.out.1; have x1 := cell1 HX.out.1; have x2 := cell2 HX.out.1; have x3 := cell3 HX.out.1))
      go_wp2_with fail
      go_ret
      rw [HUN.out]
      exact ⟨rfl, _, HC.out, HB.out⟩
    · have hne : (y.2 == 0) = false := beq_eq_false_iff_ne.mpr hy0
      have h1 := HUN.out
      rw [if_pos hy0] at h1
      replace HUN := Lib.hid h1
      clear h1 hy0
      go_wp2_with fail
      go_ret
      rw [HUN.out]
      exact ⟨rfl, _, HC.out, HB.out⟩
  · have hne : (er == 0) = false := beq_eq_false_iff_ne.mpr he
    have e : cvKeys E.l go ⟨p, q, t, v⟩ s = (s, er) := by
      unfold cvKeys
      rw [HEE.out, if_pos he]
    have HRR := Lib.hid e
    clear e he
    go_wp2_with fail
    all_goals
      go_ret
      rw [HRR.out]
      exact ⟨rfl, _, HC.out, HB.out⟩
end Go.Proofs.YtejalfjeihlpeaaGreat
