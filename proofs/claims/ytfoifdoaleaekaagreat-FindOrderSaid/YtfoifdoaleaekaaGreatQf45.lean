/-
  FindMap, the walk.
  Package find: the properties FindKeys and FindFinds.
  FindMap: for every list of strings, every word of flags and every string, every key is found in the map of a built document and leads to its value, and no other key is found. No conditions.
-/
import Derived.Test.YtfoifdoaleaekaaGreatQf43
import Derived.Test.YtfoifdoaleaekaaGreatQf44
namespace Go.Proofs.YtfoifdoaleaekaaGreat
open Go.RowKit Go.Acc
theorem has_more (r : List (List UInt8)) (s : List UInt8) {j : Nat} (hj : j < r.length) : (r.take (j + 1)).contains s = ((r.take j).contains s || r[j] == s) := by
  have h := has_step false r s hj
  simpa using h
theorem fm_yes {L : List UInt8} {p q t v : Int} {K : List (List UInt8)} (hK : KeysOk K) (h : MapD L p q t v ((fmE K).map (·.1)) ((fmE K).map (·.2.n))) {i : Nat} (hi : i < K.length) :
    ∃ a b d g, fdP L K[i] p q t v = a ∧ fdQ L K[i] p q t v = b ∧ fdT L K[i] p q t v = d ∧ fdV L K[i] p q t v = g ∧ fdB L K[i] p q t v = true ∧ fdE L K[i] p q t v = 0 ∧ intV L a b d g = (i : Int) ∧ intE L a b d g = 0 := by
  obtain ⟨j, h1, h2⟩ := fmE_at K hi
  obtain ⟨y1, y2, _, y3, y4⟩ := h.yes (fmE_up hK.1) h1 h2
  exact ⟨_, _, _, _, rfl, rfl, rfl, rfl, y1, y2, y3, y4⟩
theorem fm_any {L : List UInt8} {p q t v : Int} {K : List (List UInt8)} (hK : KeysOk K) (h : MapD L p q t v ((fmE K).map (·.1)) ((fmE K).map (·.2.n))) (k : List UInt8) :
    ∃ a b d g, fdP L k p q t v = a ∧ fdQ L k p q t v = b ∧ fdT L k p q t v = d ∧ fdV L k p q t v = g ∧ fdB L k p q t v = K.contains k ∧ fdE L k p q t v = 0 ∧ (K.contains k = false → a = 0 ∧ b = 0 ∧ d = 0 ∧ g = 0) := by
  by_cases hm : k ∈ K
  · obtain ⟨i, hi, e⟩ := List.mem_iff_getElem.1 hm
    obtain ⟨a, b, d, g, h1, h2, h3, h4, h5, h6, _⟩ := fm_yes hK h hi
    rw [e] at h1 h2 h3 h4 h5 h6
    have hc : K.contains k = true := by simpa using hm
    exact ⟨a, b, d, g, h1, h2, h3, h4, by rw [h5, hc], h6, fun hf => by rw [hc] at hf; cases hf⟩
  · obtain ⟨h1, h2, h3, h4, h5, h6⟩ := h.no (fmE_up hK.1) (k := k) (fun hk => hm ((fmE_keys K k).1 hk))
    have hc : K.contains k = false := by simpa using hm
    exact ⟨_, _, _, _, rfl, rfl, rfl, rfl, by rw [h1, hc], h2, fun _ => ⟨h3, h4, h5, h6⟩⟩
set_option maxRecDepth 100000 in
set_option maxHeartbeats 4000000 in
theorem findmap_spec (A : Option Addr) (n c : Nat) (l : List (List UInt8)) (fl : Int) (k : List UInt8) (w : World) (h : IsS w A n l) :
    Calls Tryz.prog 6 #[.slice A n c, .int .i64 fl, .string ⟨k.toArray⟩] w fun e w' => e = .returned (.bool true) ∧ Below w.heap.size w w' := by
  have HI := Lib.hid h
  obtain ⟨K, hK⟩ : ∃ K, plainL l = K := ⟨_, rfl⟩
  obtain ⟨hk1, hk2⟩ := plainL_ok l
  have HPL := Lib.hid (fun (W : World) (h : IsS W A n l) => plain_spec A n c l W h)
  rw [hK] at hk1 hk2 HPL
  have HK1 := Lib.hid hk1
  have HK2 := Lib.hid hk2
  clear h hk1 hk2 hK
  obtain ⟨m, hm⟩ : ∃ m, K.length = m := ⟨_, rfl⟩
  rw [hm] at HPL
  have HM := Lib.hid hm
  have hm40 : m ≤ 40 := by rw [← hm]; exact HK2.out
  clear hm
  go_enter Tryz.func6, Tryz.ntmps6
  go_wp2_with fail
  go_at_call 25
  refine (fiworks_spec _).mono ?_
  rintro e w1 ⟨rfl, hb⟩
  have HB1 := Lib.hid hb
  have HI1 := Lib.hid (HI.out.pure hb)
  clear hb HI
  go_wp2_with fail
  go_at_call 26
  refine (HPL.out _ HI1.out).mono ?_
  intro e w2 hS
  obtain ⟨A2, c2, rfl, ho, hb⟩ := hS
  have HO2 := Lib.hid ho
  have HB2 := Lib.hid (pure_below HB1.out hb)
  clear ho hb HI1 HB1 HPL
  go_wp2_with fail
  go_at_call 27
  refine (fbuilt_spec A2 m c2 K fl _ _ HO2.out HK1.out HK2.out).mono ?_
  intro e w3 hW
  obtain ⟨A3, n3, c3, L, p, q, t, v, rfl, hI, hnc, hn3, hMD, hb⟩ := hW
  have HMD := Lib.hid hMD
  have hal := (Below.refl w3.heap.size w3).alloc (Nat.le_refl _) (.cells #[.int .i64 p, .int .i64 q, .int .i64 t, .int .i64 v] 36)
  have hbb := pure_trans hb hal
  have HO4 := Lib.hid (HO2.out.pure hbb)
  have HD4 := Lib.hid (hI.pure hal)
  have HB4 := Lib.hid (pure_below HB2.out hbb)
  have HR4 := Lib.hid (Blk.new w3 36 #[.int .i64 p, .int .i64 q, .int .i64 t, .int .i64 v])
  have HC := Lib.hid hnc
  have HN := Lib.hid hn3
  clear hb hal hbb hI hMD HO2 HB2 hnc hn3
  go_upto_region 5 with fail
  generalize w3.alloc (.cells #[.int .i64 p, .int .i64 q, .int .i64 t, .int .i64 v] 36) = w4 at HO4 HD4 HB4 HR4 ⊢
  generalize w3.heap.size = b9 at HR4 ⊢
  go_wp2_with fail
  go_loopw [11, 12] (fun u11 u12 wr => ∃ i : Nat, i ≤ m ∧ u12 = .int .i64 (i : Int) ∧ u11 = .bool ((K.take i).contains k) ∧ Below w4.heap.size w4 wr) (fun _ u12 _ => m - (intOf u12).toNat)
  case atStart => exact ⟨0, Nat.zero_le _, rfl, rfl, Below.refl _ _⟩
  case round =>
    obtain ⟨i, him, rfl, rfl, hb⟩ := hrel
    have HBR := Lib.hid hb
    have HOR := Lib.hid (HO4.out.pure hb)
    have HDR := Lib.hid (HD4.out.pure hb)
    have HRR := Lib.hid (HR4.out.pure hb)
    clear hb
    have r0 := cell0 HRR.out
    have r1 := cell1 HRR.out
    have r2 := cell2 HRR.out
    have r3 := cell3 HRR.out
    by_cases hlt : i < m
    · obtain ⟨ga, off, e, hi', hs⟩ := iss_at HOR.out.is hlt
      obtain ⟨a, b, d, g, f1, f2, f3, f4, f5, f6, f7, f8⟩ := fm_yes HK1.out HMD.out hi'
      have HS := Lib.hid (has_more K k hi')
      generalize K[i] = y at HS hs f1 f2 f3 f4 f5 f6
      have HF := Lib.hid (fun W (h : IsB W A3 n3 L) => ffind_is A3 n3 c3 p q t v a b d g 0 true L y W h HC.out (by have := HN.out; omega) f1 f2 f3 f4 f5 f6)
      have HSI := Lib.hid (fun W (h : IsB W A3 n3 L) => int_is A3 n3 c3 a b d g L (i : Int) 0 W h HC.out (by have := HN.out; omega) f7 f8)
      generalize (K.take i).contains k = x at HS ⊢
      have hi0 : (0 : Int) ≤ (i : Int) := by omega
      have hiM : (i : Int) < (m : Int) := by omega
      have hga : ga < wr.heap.size := (HOR.out.addr _ e).2.2
      rw [e]
      have HE := Lib.hid e
      clear e hi' f1 f2 f3 f4 f5 f6 f7 f8
      go_wp2_with fail
      have HS0 := Lib.hid hs
      go_cut [13, 14, 15] (fun u13 u14 u15 wx => ∃ wy, wy = wx ∧ u14 = .bool true ∧ u15 = .int .i64 0 ∧ ∃ gx, u13 = .pointer (some ⟨gx, 0, none⟩) ∧ Blk wx gx 36 #[.int .i64 a, .int .i64 b, .int .i64 d, .int .i64 g] ∧ Below wr.heap.size wr wx)
      case first =>
        have hne1 : b9 ≠ wr.heap.size := by have := HRR.out.lt; omega
        have hne2 : ga ≠ wr.heap.size := by omega
        have HC := Lib.hid (Below.refl wr.heap.size wr)
        have HG := Lib.hid (And.intro hga HRR.out.lt)
        clear HRR HS0 hga
        go_region_held3 (fun w' => w'.cell? ⟨b9, 0, none⟩ = some (.int .i64 p) ∧ w'.cell? ⟨b9, 1, none⟩ = some (.int .i64 q) ∧ w'.cell? ⟨b9, 2, none⟩ = some (.int .i64 t) ∧ w'.cell? ⟨b9, 3, none⟩ = some (.int .i64 v) ∧ w'.cell? ⟨ga, off + i, none⟩ = some (.string ⟨y.toArray⟩)) ((with_reducible refine ⟨?_, ?_, ?_, ?_, ?_⟩) <;> (repeat (first | with_reducible assumption | with_reducible refine ldrew ?_ | with_reducible refine lalloc _ ?_ | with_reducible refine lsetA ?_ ?_)))
          (first
            | (go_at_call 28; (with_reducible refine (HF.out _ (isl_drew HDR.out)).mono ?_); rintro e w5 ⟨rfl, hb⟩; have hbx := pure_trans (below_drew wr) hb; have HC5 := Lib.hid hbx; have hsz := hbx.size; have hne3 : b9 ≠ w5.heap.size := (by have := HG.out.2; omega); have hne4 : ga ≠ w5.heap.size := (by have := HG.out.1; omega); clear hsz; replace r0 := cell_pure hbx r0; replace r1 := cell_pure hbx r1; replace r2 := cell_pure hbx r2; replace r3 := cell_pure hbx r3; replace hs := cell_pure hbx hs; clear hb hbx)
            | (go_at_call 28; (with_reducible refine (HF.out _ (isl_drew (HDR.out.alloc _))).mono ?_); rintro e w5 ⟨rfl, hb⟩; have hbx := pure_trans ((Below.refl wr.heap.size wr).alloc (Nat.le_refl _) (.cells #[.int .i64 0, .int .i64 0, .int .i64 0, .int .i64 0] 36)).drew hb; have HC5 := Lib.hid hbx; have HQ := Lib.hid ((Blk.new wr 36 #[.int .i64 0, .int .i64 0, .int .i64 0, .int .i64 0]).drew.pure hb); replace r0 := cell_pure hbx r0; replace r1 := cell_pure hbx r1; replace r2 := cell_pure hbx r2; replace r3 := cell_pure hbx r3; replace hs := cell_pure hbx hs; clear hb hbx; have q0 := cell0 HQ.out; have q1 := cell1 HQ.out; have q2 := cell2 HQ.out; have q3 := cell3 HQ.out; have p0 := HQ.out.frozen 0; have p1 := HQ.out.frozen 1; have p2 := HQ.out.frozen 2; have p3 := HQ.out.frozen 3))
        all_goals
          go_wp2_with fail
          go_meet
          first
            | with_reducible exact ⟨_, rfl, rfl, rfl, _, rfl, Blk.new _ _ _, HC5.out.alloc HC5.out.size _⟩
            | exact ⟨_, rfl, rfl, rfl, _, rfl, (((HQ.out.set_ 0 _).set_ 1 _).set_ 2 _).set_ 3 _, below_set4 _ HC5.out (Nat.le_refl _) _ _ _ _⟩
      case rest =>
      obtain ⟨w6, rfl, rfl, rfl, bx, rfl, hX, hb⟩ := hcut
      have HR6 := Lib.hid hX
      have HD6 := Lib.hid (HDR.out.pure hb)
      have HB6 := Lib.hid (pure_below HBR.out hb)
      have hs6 := cell_pure hb hs
      clear hX hb hs HS0 r0 r1 r2 r3 hga
      have r0 := cell0 HR6.out
      have r1 := cell1 HR6.out
      have r2 := cell2 HR6.out
      have r3 := cell3 HR6.out
      go_wp2_with fail
      go_at_call 23
      refine (HSI.out _ HD6.out).mono ?_
      rintro e w7 ⟨rfl, hb⟩
      have HB7 := Lib.hid (pure_below HB6.out hb)
      have hs7 := cell_pure hb hs6
      clear hb hs6 r0 r1 r2 r3
      cases x with
      | true =>
        go_wp2_with fail
        go_roundw
        case rel => exact ⟨i + 1, by omega, by go_num, by rw [HS.out]; rfl, HB7.out⟩
        case measure => simp [intOf]; omega
      | false =>
        go_wp2_with fail
        go_roundw
        case rel => exact ⟨i + 1, by omega, by go_num, by rw [HS.out, Bool.false_or], HB7.out⟩
        case measure => simp [intOf]; omega
    · obtain rfl : m = i := by omega
      obtain ⟨a, b, d, g, f1, f2, f3, f4, f5, f6, f7⟩ := fm_any HK1.out HMD.out k
      have HT := Lib.hid (show K.take m = K by rw [← HM.out, List.take_length])
      have hTT := HT.out
      rw [hTT]
      clear hTT HT
      obtain ⟨x, hx⟩ : ∃ x, K.contains k = x := ⟨_, rfl⟩
      rw [hx] at f5 f7 ⊢
      clear hx
      have HF := Lib.hid (fun W (h : IsB W A3 n3 L) => ffind_is A3 n3 c3 p q t v a b d g 0 x L k W h HC.out (by have := HN.out; omega) f1 f2 f3 f4 f5 f6)
      have HZ := Lib.hid f7
      clear f1 f2 f3 f4 f5 f6 f7
      go_wp2_with fail
      go_at_call 28
      refine (HF.out _ HDR.out).mono ?_
      rintro e w5 ⟨rfl, hb⟩
      have hal := (Below.refl w5.heap.size w5).alloc (Nat.le_refl _) (.cells #[.int .i64 a, .int .i64 b, .int .i64 d, .int .i64 g] 36)
      have hbb := pure_trans hb hal
      have HR6 := Lib.hid (Blk.new w5 36 #[.int .i64 a, .int .i64 b, .int .i64 d, .int .i64 g])
      have HB6 := Lib.hid (pure_below HB4.out (pure_below HBR.out hbb))
      clear hb hal hbb r0 r1 r2 r3
      go_upto_region 17 with fail
      generalize w5.alloc (.cells #[.int .i64 a, .int .i64 b, .int .i64 d, .int .i64 g] 36) = w6 at HR6 HB6 ⊢
      generalize w5.heap.size = b18 at HR6 ⊢
      cases x with
      | true =>
        go_wp2_with fail
        go_ret
        exact ⟨rfl, HB6.out⟩
      | false =>
        obtain ⟨rfl, rfl, rfl, rfl⟩ := HZ.out rfl
        have r0 := cell0 HR6.out
        have r1 := cell1 HR6.out
        have r2 := cell2 HR6.out
        have r3 := cell3 HR6.out
        go_wp2_with fail
        go_ret
        exact ⟨rfl, HB6.out⟩
end Go.Proofs.YtfoifdoaleaekaaGreat

namespace Go.Proofs.YtfoifdoaleaekaaGreat
open Go.RowKit Go.Acc
open Go.ChangeShapes Go.WideShapes Go.ChangeAt
set_option maxRecDepth 100000 in
theorem str_arg {H : Type} {enc : TypeId × Value → H} {W : World} {base : Nat} {v : Value} {d : DataW H} {p : List MemPlace} (k : Value.okWide Tryz.prog W .any base 9 v) (h : DataW.Trod enc Tryz.prog W 0 (fun _ => true) true 9 v d p) :
    ∃ s : List UInt8, v = .string ⟨s.toArray⟩ ∧ s.length ≤ 9223372036854775807 := by
  obtain ⟨s, rfl⟩ := okWide_string Tryz.underlying9 k
  obtain ⟨f, hf⟩ := h
  obtain ⟨s', e, _, hs⟩ := DataW.trod_string Tryz.underlying9 hf
  obtain rfl : s = s' := by simpa [Value.cells] using e
  simp only [maxLen] at hs
  exact ⟨s.data.toList, rfl, by have : s.data.toList.length = s.size := rfl; omega⟩
end Go.Proofs.YtfoifdoaleaekaaGreat

namespace Go.Proofs.YtfoifdoaleaekaaGreat
open Go.RowKit Go.Acc Go.ChangeShapes Go.WideShapes Go.ChangeAt Go.Deep
set_option maxRecDepth 100000 in
theorem strs_read {H : Type} {enc : TypeId × Value → H} {W : World} {base : Nat} {spare : Nat → Bool} {held : Bool} {fuel : Nat} {v : Value} {x : DataW H × List MemPlace} (h : DataW.trod enc Tryz.prog W base spare held fuel 23 [v] = some x) :
    ∃ A n c l, v = .slice A n c ∧ IsS W A n l := by
  rcases open_strs Tryz.underlying23 Tryz.underlying9 (by kernel_rfl) h with ⟨h0, _⟩ | ⟨a, len, cap, mm, Sx, h0, _, hlc, _, hmm, _, hi⟩
  · obtain rfl : v = .slice none 0 0 := by simpa using h0
    exact ⟨none, 0, 0, [], rfl, Is.nil _ _⟩
  · obtain rfl : v = .slice (some a) len cap := by simpa using h0
    obtain ⟨ks, hks, _⟩ := is_of_elems (f := stc) stc_len (by omega) (w := W) (a := a) (n := len) (fun _ => True) (fun i hil => ⟨(Sx i).data.toList, trivial, fun j hj => by
      obtain rfl : j = 0 := by omega
      rw [Nat.mul_one, Nat.add_zero, (hi i (by rw [hmm]; split <;> omega)).1, ba_of]
      rfl⟩)
    exact ⟨some a, len, cap, ks, rfl, hks⟩
set_option maxRecDepth 100000 in
theorem strs_arg {H : Type} {enc : TypeId × Value → H} {W : World} {base : Nat} {v : Value} {d : DataW H} {p : List MemPlace} (k : Value.okWide Tryz.prog W .any base 23 v) (h : DataW.Trod enc Tryz.prog W 0 (fun _ => true) true 23 v d p) :
    ∃ A n c l, v = .slice A n c ∧ IsS W A n l := by
  obtain ⟨_, _, _, rfl⟩ := okWide_slice Tryz.underlying23 k
  obtain ⟨f, hf⟩ := h
  exact strs_read hf
set_option maxRecDepth 100000 in
theorem findMap_run {H : Type} {enc : TypeId × Value → H} {v0 v1 v2 : Value} {d0 d1 d2 : DataW H} {p0 p1 p2 : List MemPlace} (W : World) (base : Nat) (k0 : Value.okWide Tryz.prog W .any base 23 v0) (k1 : Value.okWide Tryz.prog W .any base 3 v1) (k2 : Value.okWide Tryz.prog W .any base 9 v2)
    (h0 : DataW.Trod enc Tryz.prog W 0 (fun _ => true) true 23 v0 d0 p0) (h1 : DataW.Trod enc Tryz.prog W 0 (fun _ => true) true 3 v1 d1 p1) (h2 : DataW.Trod enc Tryz.prog W 0 (fun _ => true) true 9 v2 d2 p2) :
    Calls Tryz.prog 6 #[v0, v1, v2] W fun e w' => e = .returned (.bool true) ∧ Below W.heap.size W w' := by
  obtain ⟨A, n, c, l, rfl, hI⟩ := strs_arg k0 h0
  obtain ⟨fl, rfl, _⟩ := int_arg k1 h1
  obtain ⟨k, rfl, _⟩ := str_arg k2 h2
  exact findmap_spec A n c l fl k W hI

set_option maxRecDepth 100000 in
theorem findMap_lifted (os : Os) (started : os.Started) (H : Type) (enc : TypeId × Value → H) :
    ReturnsInHanded {} Tryz.checked os 6 .any (Rows.findMapSpec.pre6 enc Tryz.prog Tryz.f6 Rows.findMapRow.domain false) (Rows.findMapSpec.post enc Tryz.prog Tryz.f6 false true false false) := by
  refine returnsInHanded_of_change (C := Tryz.checked) acc_own started (by kernel_rfl) Tryz.func6
    (ChangeSpec.witness6 (enc := enc) (C := Tryz.checked) false ⟨#[], #[.slice none 0 0, .int .i64 0, .string ⟨#[]⟩], []⟩ 8 (by kernel_rfl) (by kernel_rfl) (by kernel_rfl) (by kernel_rfl)) ?_
  intro W base args ds gs before hval0 hW hcnd _
  have hval : ∀ (j : Nat) t v, Tryz.f6.params[j]? = some t → args[j]? = some v → Value.okWide Tryz.prog W .any base t v := hval0
  have hW' := hW
  obtain ⟨p, q, hA0, hV, rfl, hfz, hnd⟩ := hW
  have hA : DataW.TrodAll enc Tryz.prog W 0 (fun _ => true) true Tryz.f6.params.toList args.toList ds p := hA0
  rw [Tryz.params6] at hA
  rw [Tryz.params6] at hval
  obtain ⟨v0, vs0, d0, ds0, p0, q0, hargs, rfl, rfl, h0, r0⟩ := trodAll_cons hA
  obtain ⟨v1, vs1, d1, ds1, p1, q1, rfl, rfl, rfl, h1, r1⟩ := trodAll_cons r0
  obtain ⟨v2, vs2, d2, ds2, p2, q2, rfl, rfl, rfl, h2, r2⟩ := trodAll_cons r1
  obtain ⟨rfl, rfl, rfl⟩ := trodAll_nil r2
  obtain rfl : args = #[v0, v1, v2] := by cases args; simp_all
  obtain ⟨rfl, rfl⟩ := trodVars_none hV
  have k0 := hval 0 23 v0 rfl rfl
  have k1 := hval 1 3 v1 rfl rfl
  have k2 := hval 2 9 v2 rfl rfl
  clear hA0 hval0
  refine (findMap_run (enc := enc) W base k0 k1 k2 h0 h1 h2).mono fun e W' ⟨he, bel⟩ => ?_
  subst he
  exact ⟨_, rfl, _, _, _, [], _, [], hW', trodAll_mk1 (shut_bool Tryz.underlying4 _), (trodAll_cons_mk (below_arg acc_laidOut (by kernel_rfl) (of_decide_eq_true (by kernel_rfl)) h0 bel) (trodAll_cons_mk (below_arg acc_laidOut (by kernel_rfl) (of_decide_eq_true (by kernel_rfl)) h1 bel) (trodAll_cons_mk (below_arg acc_laidOut (by kernel_rfl) (of_decide_eq_true (by kernel_rfl)) h2 bel) trodAll_mk0))), rfl, bel.frame _, fun h => by cases h⟩

theorem findMap_holds : Rows.FindMapSaid :=
  OpenClaim.holds_of_wide 6 Tryz.f6 rfl rfl rfl rfl rfl rfl rfl ⟨rfl, rfl, rfl, rfl, rfl⟩ rfl rfl rfl rfl rfl (by kernel_rfl) Tryz.func6 (by kernel_rfl)
    (of_decide_eq_true (by kernel_rfl)) (by unfold Func.isWrapper; rw [if_neg (of_decide_eq_false (by kernel_rfl))]; exact ⟨rfl, rfl⟩)
    (fun os started H enc _ => findMap_lifted os started H enc)
#print axioms findMap_holds
end Go.Proofs.YtfoifdoaleaekaaGreat
