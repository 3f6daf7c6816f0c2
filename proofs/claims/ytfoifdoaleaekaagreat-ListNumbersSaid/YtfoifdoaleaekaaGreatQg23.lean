/-
  Package vec: legal, low, elements.
  Package vec: tags.
-/
import Derived.Test.YtfoifdoaleaekaaGreatQg22
namespace Go.Proofs.YtfoifdoaleaekaaGreat
open Go.RowKit Go.Acc
set_option maxHeartbeats 1000000 in
theorem vlegal_spec (v : Bv) (w : World) (hl : legalT (v.t : Int) = true) (hw : isW (v.w : Int) = true) : Calls Tryz.prog 260 #[.agg #[.int .i64 (v.t : Int), .int .i64 (v.w : Int), .int .u64 (v.n : Int)]] w fun e w' => e = .returned (.int .i64 0) ∧ Below w.heap.size w w' := by
  have HB := Lib.hid (show Below w.heap.size w (w.alloc (.cells #[.int .i64 (v.t : Int), .int .i64 (v.w : Int), .int .u64 (v.n : Int)] 185)) from (Below.refl _ _).alloc (Nat.le_refl _) _)
  have HX := Lib.hid (Blk.new w 185 #[.int .i64 (v.t : Int), .int .i64 (v.w : Int), .int .u64 (v.n : Int)])
  have HL := Lib.hid hl
  have HW := Lib.hid hw
  clear hl hw
  go_enter Tryz.func260, Tryz.ntmps260
  go_wp2_with fail
  go_at_call 84
  refine (wcode_spec (v.w : Int) _ HW.out).mono ?_
  rintro e w' ⟨⟨c, rfl⟩, rfl⟩
  go_wp2_with fail
  go_at_call 44
  refine (legal_spec (v.t : Int) _).mono ?_
  rw [HL.out]
  rintro e w1 ⟨rfl, hb⟩
  have HB1 := Lib.hid (pure_below HB.out hb)
  have HX1 := Lib.hid (HX.out.pure hb)
  have x0 : w1.cell? ⟨w.heap.size, 0, none⟩ = some (.int .i64 (v.t : Int)) := HX1.out.cell 0
  clear hb
  go_wp2_with fail
  go_at_call 17
  refine (inline_spec (v.t : Int) _).mono ?_
  obtain ⟨iv, hiv⟩ : ∃ x, inlineT (v.t : Int) = x := ⟨_, rfl⟩
  rw [hiv]
  rintro e w2 ⟨rfl, hb⟩
  have HB2 := Lib.hid (pure_below HB1.out hb)
  clear hb x0 hiv
  cases iv with
  | true =>
    go_wp2_with fail
    go_ret
    exact ⟨rfl, HB2.out⟩
  | false =>
    go_wp2_with fail
    go_ret
    exact ⟨rfl, HB2.out⟩
theorem elemsB_take (w : Nat) : ∀ (vs : List Bv) (k : Nat) (v : Bv) (l : List UInt8), vs[k]? = some v → elemsB w l (vs.take (k + 1)) = elemsB w l (vs.take k) ++ leBytes w (elemN w (l.length + k * w) v)
  | [], _, _, _, h => by simp at h
  | x :: r, 0, v, l, h => by
    simp at h
    subst h
    simp [elemsB]
  | x :: r, k + 1, v, l, h => by
    rw [List.take_succ_cons, List.take_succ_cons, elemsB, elemsB, elemsB_take w r k v _ (by simpa using h), List.length_append, leBytes_length]
    congr 3
    rw [Nat.succ_mul]
    omega
theorem elemsB_len2 (w : Nat) (vs : List Bv) (l : List UInt8) : (elemsB w l vs).length = l.length + vs.length * w := by
  obtain ⟨m, e, h⟩ := elemsB_app w vs l
  rw [e, List.length_append, h, Nat.mul_comm]
set_option maxHeartbeats 400000 in
theorem vlow_spec (n y : Nat) (w : World) (hy : isW (y : Int) = true) :
    Calls Tryz.prog 266 #[.int .u64 (n : Int), .int .i64 (y : Int)] w fun e w' => e = .returned (.int .u64 ((n % 2 ^ (8 * y) : Nat) : Int)) ∧ w = w' := by
  rcases w_cases hy with rfl | rfl | rfl | rfl
  · have HL := Lib.hid (show IntKind.u64.wrap ((n : Int) * 72057594037927936) / 72057594037927936 = ((n % 2 ^ (8 * 1) : Nat) : Int) from low_cut n 8 (by omega))
    clear hy
    go_enter Tryz.func266, Tryz.ntmps266
    go_wp2_with fail
    go_ret
    exact ⟨ret_int HL.out, rfl⟩
  · have HL := Lib.hid (show IntKind.u64.wrap ((n : Int) * 281474976710656) / 281474976710656 = ((n % 2 ^ (8 * 2) : Nat) : Int) from low_cut n 16 (by omega))
    clear hy
    go_enter Tryz.func266, Tryz.ntmps266
    go_wp2_with fail
    go_ret
    exact ⟨ret_int HL.out, rfl⟩
  · have HL := Lib.hid (show IntKind.u64.wrap ((n : Int) * 4294967296) / 4294967296 = ((n % 2 ^ (8 * 4) : Nat) : Int) from low_cut n 32 (by omega))
    clear hy
    go_enter Tryz.func266, Tryz.ntmps266
    go_wp2_with fail
    go_ret
    exact ⟨ret_int HL.out, rfl⟩
  · have HL := Lib.hid (show IntKind.u64.wrap (n : Int) = ((n % 2 ^ (8 * 8) : Nat) : Int) by have h := low_cut n 64 (by omega); simpa using h)
    clear hy
    go_enter Tryz.func266, Tryz.ntmps266
    go_wp2_with fail
    go_ret
    exact ⟨ret_int HL.out, rfl⟩
set_option maxRecDepth 100000 in
set_option maxHeartbeats 2000000 in
theorem elements_spec (b y n c : Nat) (A : Option Addr) (vs : List Bv) (l : List UInt8) (w : World) (o : Nat → Nat) (h : Buf w o b l) (hv : IsV w A n (vs.map vv)) (ho : ∀ ad, A = some ad → o ad.block ≠ 1) (hy : isW (y : Int) = true)
    (hE : ∀ (i : Nat) v, vs[i]? = some v → inl v.t = false → v.n ≤ l.length + i * y ∧ l.length + i * y - v.n < 2 ^ (8 * y)) (hm : l.length + vs.length * y ≤ 1048576) (hn : n ≤ 1000000) :
    Calls Tryz.prog 244 #[.pointer (some ⟨b, 0, none⟩), .int .i64 (y : Int), .slice A n c] w (BufTo w o b (elemsB y l vs)) := by
  have H := Lib.hid h
  have HV := Lib.hid hv
  have HOO := Lib.hid ho
  have HY := Lib.hid hy
  have HE := Lib.hid hE
  have HM := Lib.hid hm
  have HVL := Lib.hid (isv_len hv)
  clear h hv ho hE hm hy
  go_enter Tryz.func244, Tryz.ntmps244
  go_wp2_with fail
  go_loopw [10] (fun u wr => ∃ k : Nat, k ≤ n ∧ u = .int .i64 k ∧ ∃ o', Buf wr o' b (elemsB y l (vs.take k)) ∧ To (fun i => i = 1) w o wr o' ∧ IsV wr A n (vs.map vv) ∧ ∀ ad, A = some ad → o' ad.block ≠ 1) (fun u _ => n - (intOf u).toNat)
  case atStart => exact ⟨0, Nat.zero_le _, rfl, o, by rw [List.take_zero]; exact H.out, To.refl _ _ _, HV.out, HOO.out⟩
  case round =>
    obtain ⟨k, hk, rfl, o', hb, ht, hvr, hor⟩ := hrel
    have HBR := Lib.hid hb
    have HTR := Lib.hid ht
    have HVR := Lib.hid hvr
    have HOR := Lib.hid hor
    clear H HV HOO hb ht hvr hor
    by_cases hlt : k < n
    · obtain ⟨g, off, v, rfl, hvk, h0, h1, h2⟩ := isv_bv HVR.out hlt
      have HLT := Lib.hid (show g < wr.heap.size from lt_of_cell h0)
      have HT := Lib.hid (elemsB_take y vs k v l hvk)
      obtain ⟨m, hml⟩ : ∃ m, l.length + k * y = m := ⟨_, rfl⟩
      have hme : (elemsB y l (vs.take k)).length = m := by rw [elemsB_len2, List.length_take, HVL.out, Nat.min_eq_left (by omega)]; exact hml
      have hmy : m + y ≤ 1048576 := by
        have h3 := HM.out
        rw [HVL.out] at h3
        have h4 : (k + 1) * y ≤ n * y := Nat.mul_le_mul_right y (by omega)
        rw [Nat.succ_mul] at h4
        omega
      have hEk := HE.out k v hvk
      rw [hml] at hEk
      obtain ⟨q, hq⟩ : ∃ q, elemN y m v = q := ⟨_, rfl⟩
      rw [hml, hq] at HT
      have HMY := Lib.hid (show (elemsB y l (vs.take k)).length + y ≤ 1048576 by rw [hme]; exact hmy)
      have HME := Lib.hid hme
      have HQ := Lib.hid hq
      have HEK := Lib.hid hEk
      have hk0 : (0 : Int) ≤ (k : Int) := by omega
      have hkn : (k : Int) < (n : Int) := by omega
      have hmb : m ≤ 1048576 := by omega
      have hBA := (Below.refl wr.heap.size wr).alloc (Nat.le_refl _) (.cells #[.int .i64 (v.t : Int), .int .i64 (v.w : Int), .int .u64 (v.n : Int)] 185)
      have HBA := Lib.hid hBA
      have HBF := Lib.hid (HBR.out.fresh hBA 0)
      have HXA := Lib.hid (Blk.new wr 185 #[.int .i64 (v.t : Int), .int .i64 (v.w : Int), .int .u64 (v.n : Int)])
      have HX0 := Lib.hid (show newO o' wr.heap.size 0 wr.heap.size = 0 from newO_new (Nat.le_refl _))
      have HTA0 := Lib.hid (To.fresh (fun i => i = 1) hBA o' 0)
      obtain ⟨iv, hiv⟩ : ∃ x, inlineT (v.t : Int) = x := ⟨_, rfl⟩
      have HIV := Lib.hid hiv
      clear hml hme hmy hvk hEk hq hBA hiv
      go_wp2_with fail
      go_at_call 17
      generalize wr.alloc (.cells #[.int .i64 (v.t : Int), .int .i64 (v.w : Int), .int .u64 (v.n : Int)] 185) = wa at HBA HBF HXA HTA0 ⊢
      generalize newO o' wr.heap.size 0 = oa at HBF HX0 HTA0
      refine (inline_spec (v.t : Int) _).mono ?_
      rw [HIV.out]
      rintro e w2 ⟨rfl, hb⟩
      have HTA := Lib.hid (HTA0.out.trans (To.pure _ hb oa))
      have HB2 := Lib.hid (HBF.out.pure hb)
      have HX2 := Lib.hid (HXA.out.pure hb)
      have x2 : w2.cell? ⟨wr.heap.size, 2, none⟩ = some (.int .u64 (v.n : Int)) := HX2.out.cell 2
      clear hb h0 h1 h2 HTA0 HBF HXA
      cases iv with
      | true =>
        have hin : inl v.t = true := HIV.out
        have HQ2 := Lib.hid (show v.n % 2 ^ (8 * y) = q by rw [← HQ.out]; unfold elemN; rw [if_pos hin])
        have hvl := vlow_spec v.n y w2 HY.out
        rw [HQ2.out] at hvl
        have HVLW := Lib.hid hvl
        have HFQ := Lib.hid (show fitsU y q = true by rw [← HQ2.out]; exact fits_low _ _)
        have HLQ := Lib.hid (show (q : Int) < 18446744073709551616 by rw [← HQ2.out]; exact low_lt _ HY.out)
        clear hin hvl
        go_wp2_with fail
        go_at_call 266
        refine HVLW.out.mono ?_
        rintro e w' ⟨rfl, rfl⟩
        clear x2
        go_wp2_with fail
        go_at_call 133
        refine (bnum_spec b y q _ _ _ HB2.out HY.out HFQ.out HLQ.out HMY.out).mono ?_
        rintro e w4 ⟨rfl, o4, hB4, hT4⟩
        have HB4 := Lib.hid (show Buf w4 o4 b (elemsB y l (vs.take (k + 1))) by rw [HT.out]; exact hB4)
        have HT4 := Lib.hid ((HTA.out).trans hT4)
        have HV4 := Lib.hid (HVR.out.fr (HT4.out).fr (fun ad h => HOR.out ad h))
        have HO4 := Lib.hid (show ∀ ad, (some ⟨g, off, none⟩ : Option Addr) = some ad → o4 ad.block ≠ 1 from fun ad h => by
          rw [HT4.out.ow ad.block (by injection h with h; subst h; exact HLT.out)]
          exact HOR.out ad h)
        clear hB4 hT4
        go_wp2_with fail
        go_roundw
        case rel => exact ⟨k + 1, by omega, by go_num, o4, HB4.out, HTR.out.trans HT4.out, HV4.out, HO4.out⟩
        case measure => simp [intOf]; omega
      | false =>
        have hin : inl v.t = false := HIV.out
        obtain ⟨hle, hfit⟩ := HEK.out hin
        have hne : ¬ inl v.t = true := by rw [hin]; decide
        have hq2 : m - v.n = q := by rw [← HQ.out]; unfold elemN; rw [if_neg hne]
        have HFQ := Lib.hid (show fitsU y q = true from decide_eq_true (.inr (by rw [← hq2]; exact hfit)))
        have HLQ := Lib.hid (show (q : Int) < 18446744073709551616 by omega)
        have e1 : IntKind.u64.wrap (m : Int) = m := u64_in _ (by omega)
        have e2 : (m : Int) - (v.n : Int) = q := by omega
        have e3 : IntKind.u64.wrap (q : Int) = q := u64_in _ (by omega)
        clear hin hle hfit hne hq2
        go_wp2_with fail
        go_region_held3 (fun w' => w'.cell? ⟨wr.heap.size, 2, none⟩ = some (.int .u64 (v.n : Int))) (first | with_reducible exact x2 | with_reducible exact kdrew x2 | with_reducible exact kdrewN _ x2 | with_reducible exact y2) (first | (go_at_call 129; (with_reducible refine (blen_is m (HB2.out.pure (Below.refl _ _).drew) HME.out).mono ?_); rintro e w' ⟨rfl, rfl⟩) | (go_at_call 133; (with_reducible refine (bnum_spec b y q _ _ _ (HB2.out.pure (Below.refl _ _).drew) HY.out HFQ.out HLQ.out HMY.out).mono ?_); rintro e w4 ⟨rfl, o4, hB4, hT4⟩; have y2 : w4.cell? ⟨wr.heap.size, 2, none⟩ = some (.int .u64 (v.n : Int)) := (HX2.out.to_ (To.from_drew hT4) (by rw [HX0.out]; omega)).cell 2; have HRAW := Lib.hid (And.intro hB4 (To.from_drew hT4)); clear hB4 hT4))
        obtain ⟨hB4, hT4⟩ := HRAW.out
        have HB4 := Lib.hid (show Buf w4 o4 b (elemsB y l (vs.take (k + 1))) by rw [HT.out]; exact hB4)
        have HT4 := Lib.hid ((HTA.out).trans hT4)
        have HV4 := Lib.hid (HVR.out.fr (HT4.out).fr (fun ad h => HOR.out ad h))
        have HO4 := Lib.hid (show ∀ ad, (some ⟨g, off, none⟩ : Option Addr) = some ad → o4 ad.block ≠ 1 from fun ad h => by
          rw [HT4.out.ow ad.block (by injection h with h; subst h; exact HLT.out)]
          exact HOR.out ad h)
        clear hB4 hT4 x2 y2 e1 e2 e3
        go_wp2_with fail
        go_roundw
        case rel => exact ⟨k + 1, by omega, by go_num, o4, HB4.out, HTR.out.trans HT4.out, HV4.out, HO4.out⟩
        case measure => simp [intOf]; omega
    · have hd1 : decide ((k : Int) < (n : Int)) = false := decide_eq_false (by omega)
      have hd2 : decide (k < n) = false := decide_eq_false (by omega)
      have HE2 := Lib.hid (show vs.take k = vs from List.take_of_length_le (by have := HVL.out; omega))
      go_wp2_with fail
      go_end0
      exact ⟨rfl, o', by have h := HBR.out; rw [HE2.out] at h; exact h, HTR.out⟩
end Go.Proofs.YtfoifdoaleaekaaGreat

namespace Go.Proofs.YtfoifdoaleaekaaGreat
open Go.RowKit Go.Acc
theorem one_byte (W : World) (t : UInt8) : IsB (W.alloc (.cells #[.int .u8 (t.toNat : Int)] 5)) (some ⟨W.heap.size, 0, none⟩) 1 [t] := by
  refine ⟨rfl, fun j u hu => ⟨_, _, rfl, ?_⟩⟩
  rw [Nat.zero_add, (Blk.new W _ _).cell j]
  simpa [bc] using hu
structure TagS (b g0 : Nat) (l : List UInt8) (v : Bv) (w : World) (o : Nat → Nat) : Prop where
  m : Buf w o b l
  x : Blk w g0 185 #[.int .i64 (v.t : Int), .int .i64 (v.w : Int), .int .u64 (v.n : Int)]
  ox : o g0 = 0
set_option maxRecDepth 100000 in
set_option maxHeartbeats 2000000 in
theorem tags_spec (b y n c : Nat) (A : Option Addr) (vs : List Bv) (l : List UInt8) (w : World) (o : Nat → Nat) (h : Buf w o b l) (hv : IsV w A n (vs.map vv)) (ho : ∀ ad, A = some ad → o ad.block ≠ 1) (hy : isW (y : Int) = true)
    (hE : ∀ (i : Nat) v, vs[i]? = some v → legalT (v.t : Int) = true ∧ isW (v.w : Int) = true) (hm : l.length + vs.length ≤ 1048576) (hn : n ≤ 1000000) :
    Calls Tryz.prog 261 #[.pointer (some ⟨b, 0, none⟩), .int .i64 (y : Int), .slice A n c] w (BufTo w o b (l ++ vs.map (bTag y))) := by
  have H := Lib.hid h
  have HV := Lib.hid hv
  have HOO := Lib.hid ho
  have HY := Lib.hid hy
  have HE := Lib.hid hE
  have HM := Lib.hid hm
  have HVL := Lib.hid (isv_len hv)
  clear h hv ho hE hm hy
  go_enter Tryz.func261, Tryz.ntmps261
  go_wp2_with fail
  go_loopw [13] (fun u wr => ∃ k : Nat, k ≤ n ∧ u = .int .i64 k ∧ ∃ o', Buf wr o' b (l ++ (vs.take k).map (bTag y)) ∧ To (fun i => i = 1) w o wr o' ∧ IsV wr A n (vs.map vv) ∧ ∀ ad, A = some ad → o' ad.block ≠ 1) (fun u _ => n - (intOf u).toNat)
  case atStart => exact ⟨0, Nat.zero_le _, rfl, o, by simpa using H.out, To.refl _ _ _, HV.out, HOO.out⟩
  case round =>
    obtain ⟨k, hk, rfl, o', hb, ht, hvr, hor⟩ := hrel
    have HBR := Lib.hid hb
    have HTR := Lib.hid ht
    have HVR := Lib.hid hvr
    have HOR := Lib.hid hor
    clear H HV HOO hb ht hvr hor
    by_cases hlt : k < n
    · obtain ⟨g, off, v, rfl, hvk, h0, h1, h2⟩ := isv_bv HVR.out hlt
      have HLT := Lib.hid (show g < wr.heap.size from lt_of_cell h0)
      have HTK := Lib.hid (show l ++ (vs.take (k + 1)).map (bTag y) = (l ++ (vs.take k).map (bTag y)) ++ [bTag y v] by
        obtain ⟨q1, q2⟩ := List.getElem?_eq_some_iff.1 hvk
        rw [List.take_succ_eq_append_getElem q1, q2, List.map_append, ← List.append_assoc]; rfl)
      obtain ⟨hlg, hww⟩ := HE.out k v hvk
      obtain ⟨lk, hlk⟩ : ∃ x, l ++ (vs.take k).map (bTag y) = x := ⟨_, rfl⟩
      have HML := Lib.hid (show lk.length + 1 ≤ 1048576 by
        rw [← hlk, List.length_append, List.length_map, List.length_take]
        have h1 := HM.out
        have h2 := HVL.out
        omega)
      rw [hlk] at HTK HBR
      have HLG := Lib.hid hlg
      obtain ⟨ow, how⟩ : ∃ x, (if inl v.t = true then y else v.w) = x := ⟨_, rfl⟩
      have HPW := Lib.hid (show isW (ow : Int) = true by rw [← how]; split; exact HY.out; exact hww)
      have HOW := Lib.hid how
      obtain ⟨tb, htb⟩ : ∃ x, UInt8.ofNat (4 * v.t + bCode ow) = x := ⟨_, rfl⟩
      have HTB := Lib.hid (show bTag y v = tb by unfold bTag; rw [how]; exact htb)
      have HPK := Lib.hid (fun W => by have h := pack_spec v.t ow W HLG.out HPW.out; rw [htb] at h; exact h)
      have hk0 : (0 : Int) ≤ (k : Int) := by omega
      have hkn : (k : Int) < (n : Int) := by omega
      have hBA := (Below.refl wr.heap.size wr).alloc (Nat.le_refl _) (.cells #[.int .i64 (v.t : Int), .int .i64 (v.w : Int), .int .u64 (v.n : Int)] 185)
      have HZA := Lib.hid (show TagS b wr.heap.size lk v (wr.alloc (.cells #[.int .i64 (v.t : Int), .int .i64 (v.w : Int), .int .u64 (v.n : Int)] 185)) (newO o' wr.heap.size 0) from ⟨HBR.out.fresh hBA 0, Blk.new _ _ _, newO_new (Nat.le_refl _)⟩)
      have HTA0 := Lib.hid (To.fresh (fun i => i = 1) hBA o' 0)
      obtain ⟨iv, hiv⟩ : ∃ x, inlineT (v.t : Int) = x := ⟨_, rfl⟩
      have HIV := Lib.hid hiv
      clear hvk hBA hiv hlk hlg hww how htb
      go_wp2_with fail
      go_at_call 17
      generalize wr.alloc (.cells #[.int .i64 (v.t : Int), .int .i64 (v.w : Int), .int .u64 (v.n : Int)] 185) = wa at HZA HTA0 ⊢
      generalize newO o' wr.heap.size 0 = oa at HZA HTA0
      refine (inline_spec (v.t : Int) _).mono ?_
      rw [HIV.out]
      rintro e w2 ⟨rfl, hb⟩
      have HTA := Lib.hid (HTA0.out.trans (To.pure _ hb oa))
      have HZ2 := Lib.hid (show TagS b wr.heap.size lk v w2 oa from ⟨HZA.out.m.pure hb, HZA.out.x.pure hb, HZA.out.ox⟩)
      have x0 : w2.cell? ⟨wr.heap.size, 0, none⟩ = some (.int .i64 (v.t : Int)) := HZ2.out.x.cell 0
      clear hb h0 h1 h2 HTA0 HZA
      cases iv with
      | true =>
        obtain rfl : y = ow := by rw [← HOW.out]; exact (if_pos HIV.out).symm
        go_wp2_with fail
        go_at_call 132
        refine (HPK.out _).mono ?_
        rintro e w3 ⟨rfl, hb⟩
        have HT3 := Lib.hid (HTA.out.trans (To.pure _ hb oa))
        have HZ3 := Lib.hid (show TagS b wr.heap.size lk v w3 oa from ⟨HZ2.out.m.pure hb, HZ2.out.x.pure hb, HZ2.out.ox⟩)
        clear hb x0
        have hcv := run_str (c := 1) (one_byte w3 tb)
        have hB9 : Below w3.heap.size w3 ((w3.alloc (.cells #[.int .u8 (tb.toNat : Int)] 5)).alloc (.cells #[.string ⟨[tb].toArray⟩] 9)) := below_two _ _ _
        have HB9 := Lib.hid (HZ3.out.m.fresh hB9 0)
        have HT9 := Lib.hid (HT3.out.trans (To.fresh (fun i => i = 1) hB9 oa 0))
        have hS9 := one_str (w3.alloc (.cells #[.int .u8 (tb.toNat : Int)] 5)) [tb]
        have eS : (w3.alloc (.cells #[.int .u8 (tb.toNat : Int)] 5)).heap.size = w3.heap.size + 1 := by simp
        rw [eS] at hS9
        have HS9 := Lib.hid hS9
        have HO9 := Lib.hid (show ∀ ad, (some ⟨w3.heap.size + 1, 0, none⟩ : Option Addr) = some ad → newO oa w3.heap.size 0 ad.block ≠ 1 from fun ad h => by injection h with h; subst h; rw [newO_new (by show w3.heap.size ≤ w3.heap.size + 1; omega)]; omega)
        clear hB9 hS9 eS
        go_wp2_with fail
        go_at_call 134
        refine (btext_spec b 1 _ _ [[tb]] lk _ _ HB9.out HS9.out HO9.out HML.out (by omega)).mono ?_
        rintro e w4 ⟨rfl, o4, hB4, hT4⟩
        have HB4 := Lib.hid (show Buf w4 o4 b (l ++ (vs.take (k + 1)).map (bTag y)) by rw [HTK.out, HTB.out]; exact hB4)
        have HT4 := Lib.hid (HT9.out.trans hT4)
        have HV4 := Lib.hid (HVR.out.fr (HT4.out).fr (fun ad h => HOR.out ad h))
        have HO4 := Lib.hid (show ∀ ad, (some ⟨g, off, none⟩ : Option Addr) = some ad → o4 ad.block ≠ 1 from fun ad h => by
          rw [HT4.out.ow ad.block (by injection h with h; subst h; exact HLT.out)]
          exact HOR.out ad h)
        clear hB4 hT4 hcv
        go_wp2_with fail
        go_roundw
        case rel => exact ⟨k + 1, by omega, by go_num, o4, HB4.out, HTR.out.trans HT4.out, HV4.out, HO4.out⟩
        case measure => simp [intOf]; omega
      | false =>
        obtain rfl : ow = v.w := by rw [← HOW.out]; exact if_neg (by rw [show inl v.t = false from HIV.out]; decide)
        go_wp2_with fail
        go_at_call 132
        refine (HPK.out _).mono ?_
        rintro e w3 ⟨rfl, hb⟩
        have HT3 := Lib.hid (HTA.out.trans (To.pure _ hb oa))
        have HZ3 := Lib.hid (show TagS b wr.heap.size lk v w3 oa from ⟨HZ2.out.m.pure hb, HZ2.out.x.pure hb, HZ2.out.ox⟩)
        clear hb x0
        have hcv := run_str (c := 1) (one_byte w3 tb)
        have hB9 : Below w3.heap.size w3 ((w3.alloc (.cells #[.int .u8 (tb.toNat : Int)] 5)).alloc (.cells #[.string ⟨[tb].toArray⟩] 9)) := below_two _ _ _
        have HB9 := Lib.hid (HZ3.out.m.fresh hB9 0)
        have HT9 := Lib.hid (HT3.out.trans (To.fresh (fun i => i = 1) hB9 oa 0))
        have hS9 := one_str (w3.alloc (.cells #[.int .u8 (tb.toNat : Int)] 5)) [tb]
        have eS : (w3.alloc (.cells #[.int .u8 (tb.toNat : Int)] 5)).heap.size = w3.heap.size + 1 := by simp
        rw [eS] at hS9
        have HS9 := Lib.hid hS9
        have HO9 := Lib.hid (show ∀ ad, (some ⟨w3.heap.size + 1, 0, none⟩ : Option Addr) = some ad → newO oa w3.heap.size 0 ad.block ≠ 1 from fun ad h => by injection h with h; subst h; rw [newO_new (by show w3.heap.size ≤ w3.heap.size + 1; omega)]; omega)
        clear hB9 hS9 eS
        go_wp2_with fail
        go_at_call 134
        refine (btext_spec b 1 _ _ [[tb]] lk _ _ HB9.out HS9.out HO9.out HML.out (by omega)).mono ?_
        rintro e w4 ⟨rfl, o4, hB4, hT4⟩
        have HB4 := Lib.hid (show Buf w4 o4 b (l ++ (vs.take (k + 1)).map (bTag y)) by rw [HTK.out, HTB.out]; exact hB4)
        have HT4 := Lib.hid (HT9.out.trans hT4)
        have HV4 := Lib.hid (HVR.out.fr (HT4.out).fr (fun ad h => HOR.out ad h))
        have HO4 := Lib.hid (show ∀ ad, (some ⟨g, off, none⟩ : Option Addr) = some ad → o4 ad.block ≠ 1 from fun ad h => by
          rw [HT4.out.ow ad.block (by injection h with h; subst h; exact HLT.out)]
          exact HOR.out ad h)
        clear hB4 hT4 hcv
        go_wp2_with fail
        go_roundw
        case rel => exact ⟨k + 1, by omega, by go_num, o4, HB4.out, HTR.out.trans HT4.out, HV4.out, HO4.out⟩
        case measure => simp [intOf]; omega
    · have hd1 : decide ((k : Int) < (n : Int)) = false := decide_eq_false (by omega)
      have hd2 : decide (k < n) = false := decide_eq_false (by omega)
      have HE2 := Lib.hid (show vs.take k = vs from List.take_of_length_le (by have := HVL.out; omega))
      go_wp2_with fail
      go_end0
      exact ⟨rfl, o', by have h := HBR.out; rw [HE2.out] at h; exact h, HTR.out⟩
end Go.Proofs.YtfoifdoaleaekaaGreat
