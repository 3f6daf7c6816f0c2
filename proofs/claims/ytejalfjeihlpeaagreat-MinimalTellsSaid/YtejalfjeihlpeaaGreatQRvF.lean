/-
  Package accordionref28: vectors and maps.
-/
import Derived.Test.YtejalfjeihlpeaaGreatQRvE
namespace Go.Proofs.YtejalfjeihlpeaaGreat
open Go.RowKit Go.Acc
def Hd (s s' : CvS) : Prop := s'.had.length + s'.left.toNat ≤ s.had.length + s.left.toNat
theorem Hd.refl (s : CvS) : Hd s s := Nat.le_refl _
theorem Hd.trans {s s' s'' : CvS} (h : Hd s s') (h' : Hd s' s'') : Hd s s'' := Nat.le_trans h' h
theorem hd_tell (s : CvS) (a b c : Int) : Hd s (s.tell a b c) := by unfold Hd; rw [tell_had, tell_left]; exact Nat.le_refl _
def HGoes (go : Rq → CvS → CvS × Int) : Prop := ∀ r s, Hd s (go r s).1
section
variable {l : List UInt8} {go : Rq → CvS → CvS × Int} (r : Rq)
theorem text_hd (s : CvS) : Hd s (cvText l r s).1 := by
  unfold cvText
  (repeat' split) <;> first | exact Hd.refl s | exact hd_tell _ _ _ _ | exact (hd_tell _ _ _ _).trans (hd_tell _ _ _ _)
theorem apart_hd (s : CvS) : Hd s (cvApart l r s).1 := by
  unfold cvApart
  split
  · exact hd_tell _ _ _ _
  · exact Hd.refl s
theorem keys_hd (hgo : HGoes go) (s : CvS) : Hd s (cvKeys l go r s).1 := by
  unfold cvKeys
  split
  · exact Hd.refl s
  · split
    · exact hgo _ _
    · exact (hgo _ _).trans (hd_tell _ _ _ _)
theorem tag_hd (i : Nat) (s : CvS) : Hd s (cvTag l r i s) := by
  unfold cvTag
  split
  · exact hd_tell _ _ _ _
  · exact Hd.refl s
theorem len_hd (s : CvS) : Hd s (cvLen l r s) := by
  unfold cvLen
  split
  · exact hd_tell _ _ _ _
  · exact Hd.refl s
theorem elems_hd (hgo : HGoes go) : ∀ (k i : Nat) (s : CvS), Hd s (cvElems l go r k i s).1
  | 0, i, s => Hd.refl s
  | k + 1, i, s => by
    unfold cvElems
    have ht := tag_hd (l := l) r i s
    split
    · exact ht
    · have hg := hgo (cvAt l r i) (cvTag l r i s)
      split
      · exact ht.trans hg
      · exact (ht.trans hg).trans (elems_hd hgo k (i + 1) _)
theorem head_hd (hgo : HGoes go) (s : CvS) : Hd s (cvHead l go r s).1 := by
  unfold cvHead
  split
  · exact keys_hd r hgo s
  · exact Hd.refl s
theorem list_hd (hgo : HGoes go) (s : CvS) : Hd s (cvList l go r s).1 := by
  unfold cvList
  split
  · exact Hd.refl s
  · split
    · exact head_hd r hgo s
    · exact ((head_hd r hgo s).trans (len_hd r _)).trans (elems_hd r hgo _ _ _)
theorem data_hd (hgo : HGoes go) (s : CvS) : Hd s (cvData l go r s).1 := by
  unfold cvData
  split
  · exact text_hd r s
  · split
    · exact apart_hd r s
    · exact list_hd r hgo s
end
theorem come_hd (l : List UInt8) : ∀ d, HGoes (cvCome l d)
  | 0, r, s => Hd.refl s
  | d + 1, r, s => by
    unfold cvCome
    split
    · exact Hd.refl s
    · rename_i hl
      have h1 : (cvStart r s).had.length + (cvStart r s).left.toNat + 1 = s.had.length + s.left.toNat := by
        unfold cvStart
        rw [tell_had, tell_left]
        unfold CvS.burn
        simp only
        omega
      have h2 : Hd s (cvStart r s) := by unfold Hd; omega
      have h3 : Hd s ((cvStart r s).see (cvSpot l r)) := by
        unfold Hd CvS.see
        simp only [List.length_append, List.length_cons, List.length_nil]
        omega
      split
      · exact h2
      · split
        · exact h2
        · exact h3.trans (data_hd r (come_hd l d) _)
def RComesAt (E : RvE) (go : Rq → CvS → CvS × Int) (d : Nat) : Prop := ∀ (g : Rows2) (s : CvS) (p q t v : Int) (w : World), RvW E g s w → s.left.toNat < d → s.size ≤ 900000000 → s.had.length + s.left.toNat ≤ 900000000 → RqOk E.l.length ⟨p, q, t, v⟩ →
  Calls Tryz.prog 34 #[.pointer (some ⟨E.bw, 0, none⟩), .agg #[.int .i64 p, .int .i64 q, .int .i64 t, .int .i64 v]] w (RvRes E g w (go ⟨p, q, t, v⟩ s))
/-- Where a loop over the elements stands. -/
def RLiRel (E : RvE) (go : Rq → CvS → CvS × Int) (r : Rq) (N : Nat) (F : CvS × Int) (b : Nat) (w0 : World) (g : Rows2) (s0 : CvS) (u : Value) (wr : World) : Prop :=
  ∃ (i : Nat) (s : CvS) (g' : Rows2), u = .int .i64 i ∧ i ≤ N ∧ RvW E g' s wr ∧ RvTo E g g' w0 wr ∧ RLone E g' wr b 48 #[.int .i64 r.p, .int .i64 r.q, .int .i64 r.t, .int .i64 r.v] ∧
    s.left ≤ s0.left ∧ s.size ≤ s0.size + 1 ∧ Hd s0 s ∧ cvElems E.l go r (N - i) i s = F
set_option maxRecDepth 100000 in
set_option maxHeartbeats 4000000 in
theorem rvlist_spec (E : RvE) (go : Rq → CvS → CvS × Int) (d : Nat) (hgo : RComesAt E go d) (hgoes : Goes go) (hhg : HGoes go) (g : Rows2) (s : CvS) (p q t v a : Int) (w : World) (h : RvW E g s w) (hd : s.left.toNat < d) (hs : s.size ≤ 899999993) (hhs : s.had.length + s.left.toNat ≤ 900000000) (ha : tgt E.l p q t v = a) :
    Calls Tryz.prog 69 #[.pointer (some ⟨E.bw, 0, none⟩), .agg #[.int .i64 p, .int .i64 q, .int .i64 t, .int .i64 v], .int .i64 a] w (RvRes E g w (cvList E.l go ⟨p, q, t, v⟩ s)) := by
  have HC := Lib.hid (h.alloc (.cells #[.int .i64 p, .int .i64 q, .int .i64 t, .int .i64 v] 48))
  have HX := Lib.hid (h.lone 48 #[.int .i64 p, .int .i64 q, .int .i64 t, .int .i64 v])
  have HB := Lib.hid ((RvTo.refl E g w).alloc (.cells #[.int .i64 p, .int .i64 q, .int .i64 t, .int .i64 v] 48))
  have HGO := Lib.hid hgo
  have HGS := Lib.hid hgoes
  have HHG := Lib.hid hhg
  obtain ⟨f, hf⟩ : ∃ f : Int, (lsFrom E.l p q t v : Int) = f := ⟨_, rfl⟩
  obtain ⟨a', ha'⟩ : ∃ a : Int, (lsAt E.l p q t v : Int) = a := ⟨_, rfl⟩
  obtain ⟨o, ho⟩ : ∃ a : Int, (lsTo E.l p q t v : Int) = a := ⟨_, rfl⟩
  obtain ⟨N, hN⟩ : ∃ N : Nat, lsLen E.l p q t v = N := ⟨_, rfl⟩
  obtain ⟨er, he⟩ : ∃ a, lsE E.l p q t v = a := ⟨_, rfl⟩
  have HF := Lib.hid hf
  have HA0 := Lib.hid ha
  have HAA := Lib.hid ha'
  have HO := Lib.hid ho
  have HN := Lib.hid hN
  have HNI := Lib.hid (show (lsLen E.l p q t v : Int) = (N : Int) by rw [hN])
  have HEE := Lib.hid he
  have hnn := h.ok.hn
  have hlen := h.len
  clear h hf ha ha' ho hN he hgo hgoes hhg
  have c0 := (HC.out).c0; have x0 := cell0 HX.out.1; have x1 := cell1 HX.out.1; have x2 := cell2 HX.out.1; have x3 := cell3 HX.out.1
  go_enter Tryz.func69, Tryz.ntmps69
  go_wp2_with fail
  go_region_held3 (fun w' => w'.cell? ⟨E.bw, 0, none⟩ = some (.slice E.A E.n E.c) ∧ (w'.cell? ⟨w.heap.size, 0, none⟩ = some (.int .i64 p) ∧ w'.cell? ⟨w.heap.size, 1, none⟩ = some (.int .i64 q) ∧ w'.cell? ⟨w.heap.size, 2, none⟩ = some (.int .i64 t) ∧ w'.cell? ⟨w.heap.size, 3, none⟩ = some (.int .i64 v))) (first | with_reducible exact ⟨c0, x0, x1, x2, x3⟩ | with_reducible exact ⟨ldrew_ c0, ldrew_ x0, ldrew_ x1, ldrew_ x2, ldrew_ x3⟩) (first | (go_at_call 102; (with_reducible refine (rspans_is E.A E.n E.c p q t v f a' o er E.l _ HC.out.drew.b (by omega) HF.out HAA.out HO.out HEE.out).mono ?_); rintro e w1 ⟨rfl, hb1⟩; replace HB := Lib.hid (HB.out.drew.below hb1); replace HC := Lib.hid (HC.out.drew.pure hb1); replace HX := Lib.hid (HX.out.drew.pure hb1); clear c0 x0 x1 x2 x3; clear hb1; have c0 := (HC.out).c0; have x0 := cell0 HX.out.1; have x1 := cell1 HX.out.1; have x2 := cell2 HX.out.1; have x3 := cell3 HX.out.1))
  by_cases he : er = 0
  · subst he
    obtain ⟨hv1, hv8, hroom, hle⟩ := ls_room HEE.out
    have haa : a' = a := by
      have h1 := HAA.out
      have h2 := HA0.out
      unfold lsAt at h1
      rw [if_pos HEE.out, h2] at h1
      have h3 : 0 ≤ a := by
        rw [← h2]
        by_cases g : tgtE E.l p q t v = 0
        · exact (tgt_rg g).1
        · unfold tgt; rw [if_neg g]; exact Int.le_refl _
      omega
    subst haa
    obtain ⟨V, rfl⟩ : ∃ V : Nat, v = V := ⟨v.toNat, by omega⟩
    rw [Int.toNat_natCast, HN.out] at hle
    rw [Int.toNat_natCast] at hroom
    have hNV : N * V ≤ N * (V + tgs t) := Nat.mul_le_mul_left _ (Nat.le_add_right _ _)
    have HLE := Lib.hid hle
    have HNV := Lib.hid hNV
    have HRM := Lib.hid hroom
    have ha0 : 0 ≤ a' := by have := HAA.out; omega
    have ha1 : a' ≤ 4294967296 := by have := HAA.out; omega
    have hf0 : 0 ≤ f := by have := HF.out; omega
    have hf1 : f ≤ 4294967296 := by have h1 := HF.out; have h2 := HAA.out; omega
    clear hle hNV hroom
    go_wp2_with fail
    go_region_held3 (fun w' => w'.cell? ⟨E.bw, 0, none⟩ = some (.slice E.A E.n E.c) ∧ (w'.cell? ⟨w.heap.size, 0, none⟩ = some (.int .i64 p) ∧ w'.cell? ⟨w.heap.size, 1, none⟩ = some (.int .i64 q) ∧ w'.cell? ⟨w.heap.size, 2, none⟩ = some (.int .i64 t) ∧ w'.cell? ⟨w.heap.size, 3, none⟩ = some (.int .i64 V))) (first | with_reducible exact ⟨c0, x0, x1, x2, x3⟩ | with_reducible exact ⟨ldrew_ c0, ldrew_ x0, ldrew_ x1, ldrew_ x2, ldrew_ x3⟩) (first | (go_at_call 79; (with_reducible refine (rlen_is E.A E.n E.c p q t V N 0 E.l _ HC.out.drew.b (by omega) HNI.out HEE.out).mono ?_); rintro e w1 ⟨rfl, hb1⟩; replace HB := Lib.hid (HB.out.drew.below hb1); replace HC := Lib.hid (HC.out.drew.pure hb1); replace HX := Lib.hid (HX.out.drew.pure hb1); clear c0 x0 x1 x2 x3; clear hb1; have c0 := (HC.out).c0; have x0 := cell0 HX.out.1; have x1 := cell1 HX.out.1; have x2 := cell2 HX.out.1; have x3 := cell3 HX.out.1))
    obtain ⟨y, hy⟩ : ∃ y, cvHead E.l go ⟨p, q, t, V⟩ s = y := ⟨_, rfl⟩
    have HY := Lib.hid hy
    clear hy
    go_upto_if 45 with fail
    go_cut [] (fun wx => ∃ wy, wy = wx ∧ y.2 = 0 ∧ ∃ g', RvW E g' y.1 wx ∧ RvTo E g g' w wx ∧ RLone E g' wx w.heap.size 48 #[.int .i64 p, .int .i64 q, .int .i64 t, .int .i64 V])
    case first =>
      have hno : y.2 ≠ 0 → cvList E.l go ⟨p, q, t, V⟩ s = y := fun h => by
        unfold cvList
        rw [if_neg (by rw [HEE.out]; decide), HY.out, if_pos h]
      have HNO := Lib.hid hno
      clear hno
      by_cases h9 : t = 9
      · subst h9
        have hy := HY.out
        unfold cvHead at hy
        rw [if_pos rfl] at hy
        obtain ⟨kp, hk1⟩ : ∃ a, kyP E.l p q 9 V = a := ⟨_, rfl⟩
        obtain ⟨kq, hk2⟩ : ∃ a, kyQ E.l p q 9 V = a := ⟨_, rfl⟩
        obtain ⟨kt, hk3⟩ : ∃ a, kyT E.l p q 9 V = a := ⟨_, rfl⟩
        obtain ⟨kv, hk4⟩ : ∃ a, kyV E.l p q 9 V = a := ⟨_, rfl⟩
        obtain ⟨er, he⟩ : ∃ a, kyE E.l p q 9 V = a := ⟨_, rfl⟩
        have HP := Lib.hid hk1
        have HQQ := Lib.hid hk2
        have HT := Lib.hid hk3
        have HV := Lib.hid hk4
        have HKE := Lib.hid he
        have HYK := Lib.hid hy
        clear hk1 hk2 hk3 hk4 he hy
        go_upto_region 6 with fail
        go_cut [13, 14] (fun u7 u8 wx => ∃ wy, wy = wx ∧ u8 = .int .i64 er ∧ ∃ k, u7 = .pointer (some ⟨k, 0, none⟩) ∧ Blk wx k 48 #[.int .i64 kp, .int .i64 kq, .int .i64 kt, .int .i64 kv] ∧ w1.heap.size ≤ k ∧ Below w1.heap.size w1 wx)
        case first =>
          have HQ := Lib.hid (Below.refl w1.heap.size w1)
          have HL := Lib.hid HC.out.b
          obtain ⟨Ah, nh, ch, Al, nl, cl, hW, _⟩ := HC.out.R
          have HW := Lib.hid hW
          have HR := Lib.hid HX.out.1
          have hn1 : E.bw ≠ w1.heap.size := by have := HW.out.lt; omega
          have hn2 : w.heap.size ≠ w1.heap.size := by have := HR.out.lt; omega
          clear HX HB HC hW
          clear c0 x0 x1 x2 x3
          have c0 : _ = some (Value.slice E.A E.n E.c) := HW.out.cell 0; have x0 := cell0 HR.out; have x1 := cell1 HR.out; have x2 := cell2 HR.out; have x3 := cell3 HR.out
          go_region_held3 (fun w' => w'.cell? ⟨E.bw, 0, none⟩ = some (.slice E.A E.n E.c) ∧ (w'.cell? ⟨w.heap.size, 0, none⟩ = some (.int .i64 p) ∧ w'.cell? ⟨w.heap.size, 1, none⟩ = some (.int .i64 q) ∧ w'.cell? ⟨w.heap.size, 2, none⟩ = some (.int .i64 9) ∧ w'.cell? ⟨w.heap.size, 3, none⟩ = some (.int .i64 V))) ((with_reducible refine ⟨?_, ?_, ?_, ?_, ?_⟩) <;> (repeat (first | with_reducible assumption | with_reducible refine ldrew ?_ | with_reducible refine lalloc _ ?_ | with_reducible refine lsetA ?_ ?_)))
            (first | (go_at_call 78; (first | (with_reducible refine (rfkeys_is E.A E.n E.c p q 9 V kp kq kt kv er E.l _ (HL.out.pure HQ.out.drew) (by omega) HP.out HQQ.out HT.out HV.out HKE.out).mono ?_) | (with_reducible refine (rfkeys_is E.A E.n E.c p q 9 V kp kq kt kv er E.l _ (HL.out.pure (HQ.out.alloc HQ.out.size _).drew) (by omega) HP.out HQQ.out HT.out HV.out HKE.out).mono ?_)); rintro e w3 ⟨rfl, hb⟩; (first | (with_reducible replace HQ := Lib.hid (pure_below HQ.out.drew hb)) | ((with_reducible have HK := Lib.hid ((Blk.new w1 48 #[.int .i64 0, .int .i64 0, .int .i64 0, .int .i64 0]).drew.pure hb)); (with_reducible replace HQ := Lib.hid (pure_below (HQ.out.alloc HQ.out.size _).drew hb)); have q0 := cell0 HK.out; have q1 := cell1 HK.out; have q2 := cell2 HK.out; have q3 := cell3 HK.out; have p0 := HK.out.frozen 0; have p1 := HK.out.frozen 1; have p2 := HK.out.frozen 2; have p3 := HK.out.frozen 3)); replace HW := Lib.hid (HW.out.pure HQ.out); replace HR := Lib.hid (HR.out.pure HQ.out); clear c0 x0 x1 x2 x3; have c0 : _ = some (Value.slice E.A E.n E.c) := HW.out.cell 0; have x0 := cell0 HR.out; have x1 := cell1 HR.out; have x2 := cell2 HR.out; have x3 := cell3 HR.out; have hn3 : E.bw ≠ w3.heap.size := (by have := HW.out.lt; omega); have hn4 : w.heap.size ≠ w3.heap.size := (by have := HR.out.lt; omega); clear hb))
          all_goals
            go_wp2_with fail
            go_meet
            first
              | with_reducible exact ⟨_, rfl, rfl, _, rfl, Blk.new _ _ _, HQ.out.size, HQ.out.alloc HQ.out.size _⟩
              | exact ⟨_, rfl, rfl, _, rfl, (((HK.out.set_ 0 _).set_ 1 _).set_ 2 _).set_ 3 _, Nat.le_refl _, below_set4 _ HQ.out (Nat.le_refl _) _ _ _ _⟩
        case rest =>
        obtain ⟨w3, rfl, rfl, k, rfl, hK, hk, hb⟩ := hcut
        have HK := Lib.hid (show RLone E g w3 k 48 #[.int .i64 kp, .int .i64 kq, .int .i64 kt, .int .i64 kv] from ⟨hK, HC.out.newer hk⟩)
        replace HB := Lib.hid (HB.out.below hb); replace HC := Lib.hid (HC.out.pure hb); replace HX := Lib.hid (HX.out.pure hb); clear c0 x0 x1 x2 x3; clear hb; have c0 := (HC.out).c0; have x0 := cell0 HX.out.1; have x1 := cell1 HX.out.1; have x2 := cell2 HX.out.1; have x3 := cell3 HX.out.1
        clear hK hk
        by_cases he : er = 0
        · subst he
          obtain ⟨_, _, hok, hle, _, _⟩ := ky_ok HKE.out
          have k0 := cell0 HK.out.1
          have k1 := cell1 HK.out.1
          have k2 := cell2 HK.out.1
          have k3 := cell3 HK.out.1
          have HOK := Lib.hid (show RqOk E.l.length ⟨kp, kq, kt, kv⟩ by have := hok; unfold cvKey at this; rw [HP.out, HQQ.out, HT.out, HV.out] at this; exact this)
          have hek : cvKey E.l ⟨p, q, 9, V⟩ = ⟨kp, kq, kt, kv⟩ := by unfold cvKey; rw [HP.out, HQQ.out, HT.out, HV.out]
          have hun : y = if (go ⟨kp, kq, kt, kv⟩ s).2 ≠ 0 then go ⟨kp, kq, kt, kv⟩ s else ((go ⟨kp, kq, kt, kv⟩ s).1.tell (f + V) (f + 2 * V) 7, 0) := by
            rw [← HYK.out]
            unfold cvKeys
            rw [HKE.out, if_neg (by decide), hek, HF.out]
          obtain ⟨y1, hy⟩ : ∃ y, go ⟨kp, kq, kt, kv⟩ s = y := ⟨_, rfl⟩
          rw [hy] at hun
          have hys : y1.1.out.length ≤ 900000000 := by
            have h1 := (HGS.out ⟨kp, kq, kt, kv⟩ s).1.2
            rw [hy] at h1
            have := size_out y1.1
            omega
          have HUN := Lib.hid hun
          have hcomes := HGO.out g s kp kq kt kv w3 HC.out hd (by omega) hhs HOK.out
          rw [hy] at hcomes
          have HCM := Lib.hid hcomes
          clear hok hek hun hy hcomes hle
          go_wp2_with fail
          go_at_call 34
          refine HCM.out.mono ?_
          rintro e w4 ⟨rfl, g4, hC4, hT4⟩
          replace HB := Lib.hid (HB.out.trans hT4); replace HX := Lib.hid (HX.out.to hT4); replace HC := Lib.hid hC4; clear c0 x0 x1 x2 x3; clear hC4 hT4; have c0 := (HC.out).c0; have x0 := cell0 HX.out.1; have x1 := cell1 HX.out.1; have x2 := cell2 HX.out.1; have x3 := cell3 HX.out.1
          clear HK HCM k0 k1 k2 k3
          by_cases hy0 : y1.2 = 0
          · have h1 := HUN.out
            rw [hy0, if_neg (by decide)] at h1
            subst h1
            rw [hy0]
            clear HUN hy0
            have w1 : IntKind.i64.wrap (f + V) = f + V := IntWalk.i64_in _ (by omega)
            have w2 : IntKind.i64.wrap (2 * (V : Int)) = 2 * V := IntWalk.i64_in _ (by omega)
            have w3 : IntKind.i64.wrap (f + 2 * V) = f + 2 * V := IntWalk.i64_in _ (by omega)
            go_wp2_with (go_at_call 33; (with_reducible refine (rpart_spec E _ _ (f + V) (f + 2 * V) 7 _ HC.out (by omega) (by omega)).mono ?_); rintro e w2 ⟨rfl, g2, hC2, hT2⟩; replace HB := Lib.hid (HB.out.trans hT2); replace HX := Lib.hid (HX.out.to hT2); replace HC := Lib.hid hC2; clear c0 x0 x1 x2 x3; clear hC2 hT2; have c0 := (HC.out).c0; have x0 := cell0 HX.out.1; have x1 := cell1 HX.out.1; have x2 := cell2 HX.out.1; have x3 := cell3 HX.out.1)
            go_meet
            exact ⟨_, rfl, trivial, _, HC.out, HB.out, HX.out⟩
          · have hne : (y1.2 != 0) = true := by simpa using hy0
            have h1 := HUN.out
            rw [if_pos hy0] at h1
            subst h1
            have HR := Lib.hid (HNO.out hy0)
            clear hy0
            go_wp2_with fail
            go_ret
            rw [HR.out]
            exact ⟨rfl, _, HC.out, HB.out⟩
        · have hne : (er != 0) = true := by simpa using he
          have hy1 : y = (s, er) := by
            rw [← HYK.out]
            unfold cvKeys
            rw [HKE.out, if_pos he]
          subst hy1
          have HR := Lib.hid (HNO.out he)
          clear he
          go_wp2_with fail
          go_ret
          rw [HR.out]
          exact ⟨rfl, _, HC.out, HB.out⟩
      · have hy := HY.out
        unfold cvHead at hy
        rw [if_neg h9] at hy
        subst hy
        have e9 : (t == 9) = false := beq_eq_false_iff_ne.mpr h9
        clear h9
        go_wp2_with fail
        go_meet
        exact ⟨_, rfl, trivial, g, HC.out, HB.out, HX.out⟩
    case rest =>
    obtain ⟨w2, rfl, hy0, g2, hC2, hT2, hX2⟩ := hcut
    clear c0 x0 x1 x2 x3
    replace HC := Lib.hid hC2
    replace HB := Lib.hid hT2
    replace HX := Lib.hid hX2
    clear hC2 hT2 hX2
    have c0 := (HC.out).c0; have x0 := cell0 HX.out.1; have x1 := cell1 HX.out.1; have x2 := cell2 HX.out.1; have x3 := cell3 HX.out.1
    obtain ⟨z, hz⟩ : ∃ z, cvLen E.l ⟨p, q, t, V⟩ y.1 = z := ⟨_, rfl⟩
    have HZ := Lib.hid hz
    have hgrow := head_grew (l := E.l) ⟨p, q, t, V⟩ HGS.out s
    rw [HY.out] at hgrow
    have hgr2 := len_grew (l := E.l) ⟨p, q, t, V⟩ y.1
    rw [hz] at hgr2
    have hhd := (head_hd (l := E.l) ⟨p, q, t, V⟩ HHG.out s).trans (by rw [HY.out]; exact len_hd (l := E.l) ⟨p, q, t, V⟩ y.1)
    rw [hz] at hhd
    have hzl : z.left ≤ s.left := Int.le_trans hgr2.1 hgrow.1
    have hzs : z.size ≤ s.size + 1 := by have := hgr2.2; have := hgrow.2; omega
    have hyo : y.1.out.length ≤ 899999993 := by have := size_out y.1; have := hgrow.2; omega
    have HHD := Lib.hid hhd
    have HY0 := Lib.hid hy0
    clear hz hgrow hgr2 hhd hy0
    go_wp2_with fail
    go_at_call 103
    obtain ⟨ah, hah⟩ : ∃ x, aheadT t = x := ⟨_, rfl⟩
    refine (ahead_is t ah _ hah).mono ?_
    rintro e w3 ⟨rfl, rfl⟩
    have hrm := HRM.out
    rw [hah] at hrm
    have HRM2 := Lib.hid hrm
    clear hah hrm HRM
    go_upto_if 78 with fail
    go_cut [] (fun wx => ∃ wy, wy = wx ∧ ∃ g', RvW E g' z wx ∧ RvTo E g g' w wx ∧ RLone E g' wx w.heap.size 48 #[.int .i64 p, .int .i64 q, .int .i64 t, .int .i64 V])
    case first =>
      by_cases hc : 0 < ah
      · have hfa : f < a' := by
          have h1 := HRM2.out
          have h2 := HF.out
          have h3 := HAA.out
          have h4 : 1 * V ≤ ah * V := Nat.mul_le_mul_right _ hc
          omega
        have hav : (V : Int) ≤ a' := by
          have h1 := HRM2.out
          have h2 := HF.out
          have h3 := HAA.out
          have h4 : 1 * V ≤ ah * V := Nat.mul_le_mul_right _ hc
          omega
        have hz := HZ.out
        unfold cvLen at hz
        rw [if_pos (by have h1 := HF.out; have h2 := HAA.out; simp only; omega)] at hz
        have hz2 : y.1.tell (a' - V) a' 6 = z := by rw [← hz]; simp only [HAA.out]
        replace HZ := Lib.hid hz2
        have hw1 : IntKind.i64.wrap (a' - V) = a' - V := IntWalk.i64_in _ (by omega)
        clear hz hz2
        go_wp2_with (go_at_call 33; (with_reducible refine (rpart_spec E _ _ (a' - V) a' 6 _ HC.out (by omega) (by omega)).mono ?_); rintro e w2 ⟨rfl, g2, hC2, hT2⟩; replace HB := Lib.hid (HB.out.trans hT2); replace HX := Lib.hid (HX.out.to hT2); replace HC := Lib.hid hC2; clear c0 x0 x1 x2 x3; clear hC2 hT2; have c0 := (HC.out).c0; have x0 := cell0 HX.out.1; have x1 := cell1 HX.out.1; have x2 := cell2 HX.out.1; have x3 := cell3 HX.out.1)
        go_meet
        rw [← HZ.out]
        exact ⟨_, rfl, _, HC.out, HB.out, HX.out⟩
      · obtain rfl : ah = 0 := by omega
        have e : z = y.1 := by
          have hz := HZ.out
          subst hz
          unfold cvLen
          rw [if_neg]
          have h1 := HRM2.out
          simp only [Nat.zero_mul, Nat.add_zero] at h1
          simp only
          omega
        subst e
        clear hc
        go_wp2_with fail
        go_meet
        exact ⟨_, rfl, _, HC.out, HB.out, HX.out⟩
    case rest =>
    obtain ⟨w4, rfl, g3, hC3, hT3, hX3⟩ := hcut
    obtain ⟨F, hF⟩ : ∃ F, cvElems E.l go ⟨p, q, t, V⟩ N 0 z = F := ⟨_, rfl⟩
    have hrel : RLiRel E go ⟨p, q, t, V⟩ N F w.heap.size w g s (.int .i64 0) w4 := ⟨0, z, g3, rfl, Nat.zero_le _, hC3, hT3, hX3, hzl, hzs, HHD.out, hF⟩
    have HREL := Lib.hid hrel
    have hlf : cvList E.l go ⟨p, q, t, V⟩ s = F := by
      unfold cvList
      rw [if_neg (by rw [HEE.out]; decide), HY.out, if_neg (by rw [HY0.out]; decide), HZ.out, ← hF]
      simp only [HN.out]
    have HLF := Lib.hid hlf
    have HTN := Lib.hid (show (N : Int) * (V : Int) ≤ 4294967296 ∧ (0 : Int) ≤ (N : Int) * (V : Int) ∧ N ≤ 4294967296 from by
      have h1 := HLE.out
      have h2 := HNV.out
      have h3 := HAA.out
      have h5 : ((N * V : Nat) : Int) = (N : Int) * (V : Int) := Int.natCast_mul _ _
      have h6 : N ≤ N * V := Nat.le_mul_of_pos_right _ (by omega)
      refine ⟨by omega, by omega, by omega⟩)
    clear hF hrel hC3 hT3 hX3 hlf
    clear c0 x0 x1 x2 x3
    clear HC HX HB
    go_wp2_with fail
    go_loopw [16] (fun u wr => RLiRel E go ⟨p, q, t, V⟩ N F w.heap.size w g s u wr) (fun u _ => N - (intOf u).toNat)
    case atStart => exact HREL.out
    case round =>
      clear HREL
      obtain ⟨i, s1, g1, rfl, hi, hC1, hT1, hX1, hl1, hs1, hh1, hF1⟩ := hrel
      have HC := Lib.hid hC1
      have HB := Lib.hid hT1
      have HX := Lib.hid hX1
      have HF1 := Lib.hid hF1
      have HH1 := Lib.hid hh1
      clear hC1 hT1 hX1 hF1 hh1
      obtain ⟨hP1, hP0, hN1⟩ := HTN.out
      by_cases hlt : i < N
      · obtain ⟨st, hst⟩ : ∃ st, cvTag E.l ⟨p, q, t, V⟩ i s1 = st := ⟨_, rfl⟩
        have hstg := tag_grew (l := E.l) ⟨p, q, t, V⟩ i s1
        have hsth := HH1.out.trans (tag_hd (l := E.l) ⟨p, q, t, V⟩ i s1)
        rw [hst] at hstg hsth
        have hstl : st.left ≤ s.left := Int.le_trans hstg.1 hl1
        have hsts : st.size ≤ s.size + 2 := by have := hstg.2; omega
        have hs1o : s1.out.length ≤ 899999999 := by have := size_out s1; omega
        have HST := Lib.hid hst
        have HHS := Lib.hid (show st.had.length + st.left.toNat ≤ 900000000 from Nat.le_trans hsth hhs)
        have HHS2 := Lib.hid hsth
        clear hst hstg hsth
        have c0 := (HC.out).c0; have x0 := cell0 HX.out.1; have x1 := cell1 HX.out.1; have x2 := cell2 HX.out.1; have x3 := cell3 HX.out.1
        obtain ⟨tg, htg⟩ : ∃ x, tagT t = x := ⟨_, rfl⟩
        have htags := tags_spec t wr
        rw [htg] at htags
        have HTG := Lib.hid htg
        have HTS := Lib.hid htags
        clear htg htags
        go_wp2_with fail
        go_at_call 104
        refine HTS.out.mono ?_
        rintro e w8 ⟨rfl, rfl⟩
        clear HTS
        cases tg with
        | true =>
          have e : s1.tell (a' + (N : Int) * (V : Int) + (i : Int)) (a' + (N : Int) * (V : Int) + (i : Int) + 1) 8 = st := by
            rw [← HST.out]
            unfold cvTag
            rw [if_pos HTG.out]
            simp only [HAA.out, HN.out]
          have HE := Lib.hid e
          clear e
          go_wp2_with (go_at_call 33; (with_reducible refine (rpart_spec E _ _ (a' + (N : Int) * (V : Int) + (i : Int)) (a' + (N : Int) * (V : Int) + (i : Int) + 1) 8 _ HC.out (by omega) (by omega)).mono ?_); rintro e w2 ⟨rfl, hD⟩; rw [HE.out] at hD; obtain ⟨g2, hC2, hT2⟩ := hD; replace HB := Lib.hid (HB.out.trans hT2); replace HX := Lib.hid (HX.out.to hT2); replace HC := Lib.hid hC2; clear c0 x0 x1 x2 x3; clear hC2 hT2; have c0 := (HC.out).c0; have x0 := cell0 HX.out.1; have x1 := cell1 HX.out.1; have x2 := cell2 HX.out.1; have x3 := cell3 HX.out.1)
          obtain ⟨kp, hk1⟩ : ∃ x, atP E.l p q t V i = x := ⟨_, rfl⟩
          obtain ⟨kq, hk2⟩ : ∃ x, atQ E.l p q t V i = x := ⟨_, rfl⟩
          obtain ⟨kt, hk3⟩ : ∃ x, atT E.l p q t V i = x := ⟨_, rfl⟩
          obtain ⟨kv, hk4⟩ : ∃ x, atV E.l p q t V i = x := ⟨_, rfl⟩
          obtain ⟨ee, hee'⟩ : ∃ x, atE E.l p q t V i = x := ⟨_, rfl⟩
          have HP := Lib.hid hk1
          have HQQ := Lib.hid hk2
          have HT := Lib.hid hk3
          have HV := Lib.hid hk4
          have HKE := Lib.hid hee'
          clear hk1 hk2 hk3 hk4 hee'
          go_upto_region 20 with fail
          go_cut [17, 18] (fun u7 u8 wx => ∃ wy, wy = wx ∧ u8 = .int .i64 ee ∧ ∃ k, u7 = .pointer (some ⟨k, 0, none⟩) ∧ Blk wx k 48 #[.int .i64 kp, .int .i64 kq, .int .i64 kt, .int .i64 kv] ∧ w2.heap.size ≤ k ∧ Below w2.heap.size w2 wx)
          case first =>
            have HQ := Lib.hid (Below.refl w2.heap.size w2)
            have HL := Lib.hid HC.out.b
            obtain ⟨Ah, nh, ch, Al, nl, cl, hW, _⟩ := HC.out.R
            have HW := Lib.hid hW
            have HR := Lib.hid HX.out.1
            have hn1 : E.bw ≠ w2.heap.size := by have := HW.out.lt; omega
            have hn2 : w.heap.size ≠ w2.heap.size := by have := HR.out.lt; omega
            clear HX HB HC hW HF1 HST
            clear c0 x0 x1 x2 x3
            have c0 : _ = some (Value.slice E.A E.n E.c) := HW.out.cell 0; have x0 := cell0 HR.out; have x1 := cell1 HR.out; have x2 := cell2 HR.out; have x3 := cell3 HR.out
            go_region_held3 (fun w' => w'.cell? ⟨E.bw, 0, none⟩ = some (.slice E.A E.n E.c) ∧ (w'.cell? ⟨w.heap.size, 0, none⟩ = some (.int .i64 p) ∧ w'.cell? ⟨w.heap.size, 1, none⟩ = some (.int .i64 q) ∧ w'.cell? ⟨w.heap.size, 2, none⟩ = some (.int .i64 t) ∧ w'.cell? ⟨w.heap.size, 3, none⟩ = some (.int .i64 V))) ((with_reducible refine ⟨?_, ?_, ?_, ?_, ?_⟩) <;> (repeat (first | with_reducible assumption | with_reducible refine ldrew ?_ | with_reducible refine lalloc _ ?_ | with_reducible refine lsetA ?_ ?_)))
              (first | (go_at_call 80; (first | (with_reducible refine (rat_is E.A E.n E.c p q t V i kp kq kt kv ee E.l _ (HL.out.pure HQ.out.drew) (by omega) HP.out HQQ.out HT.out HV.out HKE.out).mono ?_) | (with_reducible refine (rat_is E.A E.n E.c p q t V i kp kq kt kv ee E.l _ (HL.out.pure (HQ.out.alloc HQ.out.size _).drew) (by omega) HP.out HQQ.out HT.out HV.out HKE.out).mono ?_)); rintro e w5 ⟨rfl, hb⟩; (first | (with_reducible replace HQ := Lib.hid (pure_below HQ.out.drew hb)) | ((with_reducible have HK := Lib.hid ((Blk.new w2 48 #[.int .i64 0, .int .i64 0, .int .i64 0, .int .i64 0]).drew.pure hb)); (with_reducible replace HQ := Lib.hid (pure_below (HQ.out.alloc HQ.out.size _).drew hb)); have q0 := cell0 HK.out; have q1 := cell1 HK.out; have q2 := cell2 HK.out; have q3 := cell3 HK.out; have p0 := HK.out.frozen 0; have p1 := HK.out.frozen 1; have p2 := HK.out.frozen 2; have p3 := HK.out.frozen 3)); replace HW := Lib.hid (HW.out.pure HQ.out); replace HR := Lib.hid (HR.out.pure HQ.out); clear c0 x0 x1 x2 x3; have c0 : _ = some (Value.slice E.A E.n E.c) := HW.out.cell 0; have x0 := cell0 HR.out; have x1 := cell1 HR.out; have x2 := cell2 HR.out; have x3 := cell3 HR.out; have hn3 : E.bw ≠ w5.heap.size := (by have := HW.out.lt; omega); have hn4 : w.heap.size ≠ w5.heap.size := (by have := HR.out.lt; omega); clear hb))
            all_goals
              go_wp2_with fail
              go_meet
              first
                | with_reducible exact ⟨_, rfl, rfl, _, rfl, Blk.new _ _ _, HQ.out.size, HQ.out.alloc HQ.out.size _⟩
                | exact ⟨_, rfl, rfl, _, rfl, (((HK.out.set_ 0 _).set_ 1 _).set_ 2 _).set_ 3 _, Nat.le_refl _, below_set4 _ HQ.out (Nat.le_refl _) _ _ _ _⟩
          case rest =>
          obtain ⟨w6, rfl, rfl, k, rfl, hK, hk, hb⟩ := hcut
          have HK := Lib.hid (show RLone E g2 w6 k 48 #[.int .i64 kp, .int .i64 kq, .int .i64 kt, .int .i64 kv] from ⟨hK, HC.out.newer hk⟩)
          replace HB := Lib.hid (HB.out.below hb); replace HC := Lib.hid (HC.out.pure hb); replace HX := Lib.hid (HX.out.pure hb); clear c0 x0 x1 x2 x3; clear hb; have c0 := (HC.out).c0; have x0 := cell0 HX.out.1; have x1 := cell1 HX.out.1; have x2 := cell2 HX.out.1; have x3 := cell3 HX.out.1
          clear hK hk
          by_cases hee : ee = 0
          · subst hee
            have hok := at_ok HEE.out (by rw [HN.out]; exact hlt) HKE.out
            have hat : cvAt E.l ⟨p, q, t, V⟩ i = ⟨kp, kq, kt, kv⟩ := by unfold cvAt; simp only [HP.out, HQQ.out, HT.out, HV.out]
            rw [hat] at hok
            obtain ⟨y2, hy2⟩ : ∃ y, go ⟨kp, kq, kt, kv⟩ st = y := ⟨_, rfl⟩
            have hstep := elems_ok (l := E.l) (r := ⟨p, q, t, V⟩) HKE.out HST.out hat hy2 hlt HF1.out
            have hcm := HGO.out _ st kp kq kt kv w6 HC.out (by omega) (by omega) (by have := HHS.out; omega) hok
            have hgr := HGS.out ⟨kp, kq, kt, kv⟩ st
            have hhg2 := HHG.out ⟨kp, kq, kt, kv⟩ st
            rw [hy2] at hcm hgr hhg2
            have HCM := Lib.hid hcm
            have HGR := Lib.hid hgr
            have HHG2 := Lib.hid (Hd.trans HHS2.out hhg2)
            have HSTEP := Lib.hid hstep
            have k0 := cell0 HK.out.1
            have k1 := cell1 HK.out.1
            have k2 := cell2 HK.out.1
            have k3 := cell3 HK.out.1
            clear hok hat hy2 hstep hcm hgr hhg2 HF1
            go_wp2_with fail
            go_at_call 34
            refine HCM.out.mono ?_
            rintro e w7 ⟨rfl, g7, hC7, hT7⟩
            replace HB := Lib.hid (HB.out.trans hT7); replace HX := Lib.hid (HX.out.to hT7); replace HC := Lib.hid hC7; clear c0 x0 x1 x2 x3; clear hC7 hT7; have c0 := (HC.out).c0; have x0 := cell0 HX.out.1; have x1 := cell1 HX.out.1; have x2 := cell2 HX.out.1; have x3 := cell3 HX.out.1
            clear HK HCM k0 k1 k2 k3
            by_cases hy0 : y2.2 = 0
            · have HY2 := Lib.hid hy0
              rw [hy0]
              clear hy0
              go_wp2_with fail
              go_roundw
              case rel => exact ⟨i + 1, y2.1, g7, by go_num, by omega, HC.out, HB.out, HX.out, Int.le_trans HGR.out.1.1 hstl, by have := HGR.out.2 HY2.out; omega, HHG2.out, HSTEP.out.1 HY2.out⟩
              case measure => simp [intOf]; omega
            · have hne : (y2.2 != 0) = true := by simpa using hy0
              have HR := Lib.hid (HSTEP.out.2 hy0)
              clear hy0
              go_wp2_with fail
              go_ret
              rw [HLF.out, HR.out]
              exact ⟨rfl, _, HC.out, HB.out⟩
          · have hne : (ee != 0) = true := by simpa using hee
            have HEN := Lib.hid (elems_no (l := E.l) (r := ⟨p, q, t, V⟩) HKE.out hee HST.out hlt HF1.out)
            clear hee HF1
            go_wp2_with fail
            go_ret
            rw [HLF.out, HEN.out]
            exact ⟨rfl, _, HC.out, HB.out⟩
        | false =>
          have e : st = s1 := by
            rw [← HST.out]
            unfold cvTag
            rw [if_neg (by rw [HTG.out]; decide)]
          subst e
          obtain ⟨kp, hk1⟩ : ∃ x, atP E.l p q t V i = x := ⟨_, rfl⟩
          obtain ⟨kq, hk2⟩ : ∃ x, atQ E.l p q t V i = x := ⟨_, rfl⟩
          obtain ⟨kt, hk3⟩ : ∃ x, atT E.l p q t V i = x := ⟨_, rfl⟩
          obtain ⟨kv, hk4⟩ : ∃ x, atV E.l p q t V i = x := ⟨_, rfl⟩
          obtain ⟨ee, hee'⟩ : ∃ x, atE E.l p q t V i = x := ⟨_, rfl⟩
          have HP := Lib.hid hk1
          have HQQ := Lib.hid hk2
          have HT := Lib.hid hk3
          have HV := Lib.hid hk4
          have HKE := Lib.hid hee'
          clear hk1 hk2 hk3 hk4 hee'
          go_upto_region 20 with fail
          go_cut [17, 18] (fun u7 u8 wx => ∃ wy, wy = wx ∧ u8 = .int .i64 ee ∧ ∃ k, u7 = .pointer (some ⟨k, 0, none⟩) ∧ Blk wx k 48 #[.int .i64 kp, .int .i64 kq, .int .i64 kt, .int .i64 kv] ∧ wr.heap.size ≤ k ∧ Below wr.heap.size wr wx)
          case first =>
            have HQ := Lib.hid (Below.refl wr.heap.size wr)
            have HL := Lib.hid HC.out.b
            obtain ⟨Ah, nh, ch, Al, nl, cl, hW, _⟩ := HC.out.R
            have HW := Lib.hid hW
            have HR := Lib.hid HX.out.1
            have hn1 : E.bw ≠ wr.heap.size := by have := HW.out.lt; omega
            have hn2 : w.heap.size ≠ wr.heap.size := by have := HR.out.lt; omega
            clear HX HB HC hW HF1 HST
            clear c0 x0 x1 x2 x3
            have c0 : _ = some (Value.slice E.A E.n E.c) := HW.out.cell 0; have x0 := cell0 HR.out; have x1 := cell1 HR.out; have x2 := cell2 HR.out; have x3 := cell3 HR.out
            go_region_held3 (fun w' => w'.cell? ⟨E.bw, 0, none⟩ = some (.slice E.A E.n E.c) ∧ (w'.cell? ⟨w.heap.size, 0, none⟩ = some (.int .i64 p) ∧ w'.cell? ⟨w.heap.size, 1, none⟩ = some (.int .i64 q) ∧ w'.cell? ⟨w.heap.size, 2, none⟩ = some (.int .i64 t) ∧ w'.cell? ⟨w.heap.size, 3, none⟩ = some (.int .i64 V))) ((with_reducible refine ⟨?_, ?_, ?_, ?_, ?_⟩) <;> (repeat (first | with_reducible assumption | with_reducible refine ldrew ?_ | with_reducible refine lalloc _ ?_ | with_reducible refine lsetA ?_ ?_)))
              (first | (go_at_call 80; (first | (with_reducible refine (rat_is E.A E.n E.c p q t V i kp kq kt kv ee E.l _ (HL.out.pure HQ.out.drew) (by omega) HP.out HQQ.out HT.out HV.out HKE.out).mono ?_) | (with_reducible refine (rat_is E.A E.n E.c p q t V i kp kq kt kv ee E.l _ (HL.out.pure (HQ.out.alloc HQ.out.size _).drew) (by omega) HP.out HQQ.out HT.out HV.out HKE.out).mono ?_)); rintro e w5 ⟨rfl, hb⟩; (first | (with_reducible replace HQ := Lib.hid (pure_below HQ.out.drew hb)) | ((with_reducible have HK := Lib.hid ((Blk.new wr 48 #[.int .i64 0, .int .i64 0, .int .i64 0, .int .i64 0]).drew.pure hb)); (with_reducible replace HQ := Lib.hid (pure_below (HQ.out.alloc HQ.out.size _).drew hb)); have q0 := cell0 HK.out; have q1 := cell1 HK.out; have q2 := cell2 HK.out; have q3 := cell3 HK.out; have p0 := HK.out.frozen 0; have p1 := HK.out.frozen 1; have p2 := HK.out.frozen 2; have p3 := HK.out.frozen 3)); replace HW := Lib.hid (HW.out.pure HQ.out); replace HR := Lib.hid (HR.out.pure HQ.out); clear c0 x0 x1 x2 x3; have c0 : _ = some (Value.slice E.A E.n E.c) := HW.out.cell 0; have x0 := cell0 HR.out; have x1 := cell1 HR.out; have x2 := cell2 HR.out; have x3 := cell3 HR.out; have hn3 : E.bw ≠ w5.heap.size := (by have := HW.out.lt; omega); have hn4 : w.heap.size ≠ w5.heap.size := (by have := HR.out.lt; omega); clear hb))
            all_goals
              go_wp2_with fail
              go_meet
              first
                | with_reducible exact ⟨_, rfl, rfl, _, rfl, Blk.new _ _ _, HQ.out.size, HQ.out.alloc HQ.out.size _⟩
                | exact ⟨_, rfl, rfl, _, rfl, (((HK.out.set_ 0 _).set_ 1 _).set_ 2 _).set_ 3 _, Nat.le_refl _, below_set4 _ HQ.out (Nat.le_refl _) _ _ _ _⟩
          case rest =>
          obtain ⟨w6, rfl, rfl, k, rfl, hK, hk, hb⟩ := hcut
          have HK := Lib.hid (show RLone E g1 w6 k 48 #[.int .i64 kp, .int .i64 kq, .int .i64 kt, .int .i64 kv] from ⟨hK, HC.out.newer hk⟩)
          replace HB := Lib.hid (HB.out.below hb); replace HC := Lib.hid (HC.out.pure hb); replace HX := Lib.hid (HX.out.pure hb); clear c0 x0 x1 x2 x3; clear hb; have c0 := (HC.out).c0; have x0 := cell0 HX.out.1; have x1 := cell1 HX.out.1; have x2 := cell2 HX.out.1; have x3 := cell3 HX.out.1
          clear hK hk
          by_cases hee : ee = 0
          · subst hee
            have hok := at_ok HEE.out (by rw [HN.out]; exact hlt) HKE.out
            have hat : cvAt E.l ⟨p, q, t, V⟩ i = ⟨kp, kq, kt, kv⟩ := by unfold cvAt; simp only [HP.out, HQQ.out, HT.out, HV.out]
            rw [hat] at hok
            obtain ⟨y2, hy2⟩ : ∃ y, go ⟨kp, kq, kt, kv⟩ st = y := ⟨_, rfl⟩
            have hstep := elems_ok (l := E.l) (r := ⟨p, q, t, V⟩) HKE.out HST.out hat hy2 hlt HF1.out
            have hcm := HGO.out _ st kp kq kt kv w6 HC.out (by omega) (by omega) (by have := HHS.out; omega) hok
            have hgr := HGS.out ⟨kp, kq, kt, kv⟩ st
            have hhg2 := HHG.out ⟨kp, kq, kt, kv⟩ st
            rw [hy2] at hcm hgr hhg2
            have HCM := Lib.hid hcm
            have HGR := Lib.hid hgr
            have HHG2 := Lib.hid (Hd.trans HHS2.out hhg2)
            have HSTEP := Lib.hid hstep
            have k0 := cell0 HK.out.1
            have k1 := cell1 HK.out.1
            have k2 := cell2 HK.out.1
            have k3 := cell3 HK.out.1
            clear hok hat hy2 hstep hcm hgr hhg2 HF1
            go_wp2_with fail
            go_at_call 34
            refine HCM.out.mono ?_
            rintro e w7 ⟨rfl, g7, hC7, hT7⟩
            replace HB := Lib.hid (HB.out.trans hT7); replace HX := Lib.hid (HX.out.to hT7); replace HC := Lib.hid hC7; clear c0 x0 x1 x2 x3; clear hC7 hT7; have c0 := (HC.out).c0; have x0 := cell0 HX.out.1; have x1 := cell1 HX.out.1; have x2 := cell2 HX.out.1; have x3 := cell3 HX.out.1
            clear HK HCM k0 k1 k2 k3
            by_cases hy0 : y2.2 = 0
            · have HY2 := Lib.hid hy0
              rw [hy0]
              clear hy0
              go_wp2_with fail
              go_roundw
              case rel => exact ⟨i + 1, y2.1, g7, by go_num, by omega, HC.out, HB.out, HX.out, Int.le_trans HGR.out.1.1 hstl, by have := HGR.out.2 HY2.out; omega, HHG2.out, HSTEP.out.1 HY2.out⟩
              case measure => simp [intOf]; omega
            · have hne : (y2.2 != 0) = true := by simpa using hy0
              have HR := Lib.hid (HSTEP.out.2 hy0)
              clear hy0
              go_wp2_with fail
              go_ret
              rw [HLF.out, HR.out]
              exact ⟨rfl, _, HC.out, HB.out⟩
          · have hne : (ee != 0) = true := by simpa using hee
            have HEN := Lib.hid (elems_no (l := E.l) (r := ⟨p, q, t, V⟩) HKE.out hee HST.out hlt HF1.out)
            clear hee HF1
            go_wp2_with fail
            go_ret
            rw [HLF.out, HEN.out]
            exact ⟨rfl, _, HC.out, HB.out⟩
      · have hie : N - i = 0 := by omega
        have hf1 := HF1.out
        rw [hie] at hf1
        have HFF := Lib.hid (show F = (s1, 0) from hf1.symm)
        clear hf1 hie HF1
        have c0 := (HC.out).c0; have x0 := cell0 HX.out.1; have x1 := cell1 HX.out.1; have x2 := cell2 HX.out.1; have x3 := cell3 HX.out.1
        go_wp2_with fail
        go_ret
        rw [HLF.out, HFF.out]
        exact ⟨rfl, _, HC.out, HB.out⟩
  · have hne : (er != 0) = true := by simpa using he
    have e : cvList E.l go ⟨p, q, t, v⟩ s = (s, er) := by
      unfold cvList
      rw [HEE.out, if_pos he]
    have HR := Lib.hid e
    clear e he
    go_wp2_with fail
    go_ret
    rw [HR.out]
    exact ⟨rfl, _, HC.out, HB.out⟩
end Go.Proofs.YtejalfjeihlpeaaGreat
