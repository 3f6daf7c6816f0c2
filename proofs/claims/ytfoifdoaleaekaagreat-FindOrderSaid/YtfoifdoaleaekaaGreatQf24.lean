/-
  Package vec: legal, low, elements.
  Package vec: tags.
  Package maps: element, tag.
-/
import Derived.Test.YtfoifdoaleaekaaGreatQf23
namespace Go.Proofs.YtfoifdoaleaekaaGreat
open Go.RowKit Go.Acc
set_option maxHeartbeats 1000000 in
theorem vlegal_spec (v : Bv) (w : World) (hl : legalT (v.t : Int) = true) (hw : isW (v.w : Int) = true) : Calls Tryz.prog 260 #[.agg #[.int .i64 (v.t : Int), .int .i64 (v.w : Int), .int .u64 (v.n : Int)]] w fun e w' => e = .returned (.int .i64 0) ∧ Below w.heap.size w w' := by
  have HB := Lib.hid (show Below w.heap.size w (w.alloc (.cells #[.int .i64 (v.t : Int), .int .i64 (v.w : Int), .int .u64 (v.n : Int)] 185)) from (Below.refl _ _).alloc (Nat.le_refl _) _)
  have HX := Lib.hid (Blk.new w 185 #[.int .i64 (v.t : Int), .int .i64 (v.w : Int), .int .u64 (v.n : Int)])
  have HL := Lib.hid hl
  have HW := Lib.hid hw
  clear hl hw
  go_enter Tryz.func260, Tryz.ntmps260
  go_wp2_with fail
  go_at_call 84
  refine (wcode_spec (v.w : Int) _ HW.out).mono ?_
  rintro e w' ⟨⟨c, rfl⟩, rfl⟩
  go_wp2_with fail
  go_at_call 44
  refine (legal_spec (v.t : Int) _).mono ?_
  rw [HL.out]
  rintro e w1 ⟨rfl, hb⟩
  have HB1 := Lib.hid (pure_below HB.out hb)
  have HX1 := Lib.hid (HX.out.pure hb)
  have x0 : w1.cell? ⟨w.heap.size, 0, none⟩ = some (.int .i64 (v.t : Int)) := HX1.out.cell 0
  clear hb
  go_wp2_with fail
  go_at_call 17
  refine (inline_spec (v.t : Int) _).mono ?_
  obtain ⟨iv, hiv⟩ : ∃ x, inlineT (v.t : Int) = x := ⟨_, rfl⟩
  rw [hiv]
  rintro e w2 ⟨rfl, hb⟩
  have HB2 := Lib.hid (pure_below HB1.out hb)
  clear hb x0 hiv
  cases iv with
  | true =>
    go_wp2_with fail
    go_ret
    exact ⟨rfl, HB2.out⟩
  | false =>
    go_wp2_with fail
    go_ret
    exact ⟨rfl, HB2.out⟩
theorem elemsB_take (w : Nat) : ∀ (vs : List Bv) (k : Nat) (v : Bv) (l : List UInt8), vs[k]? = some v → elemsB w l (vs.take (k + 1)) = elemsB w l (vs.take k) ++ leBytes w (elemN w (l.length + k * w) v)
  | [], _, _, _, h => by simp at h
  | x :: r, 0, v, l, h => by
    simp at h
    subst h
    simp [elemsB]
  | x :: r, k + 1, v, l, h => by
    rw [List.take_succ_cons, List.take_succ_cons, elemsB, elemsB, elemsB_take w r k v _ (by simpa using h), List.length_append, leBytes_length]
    congr 3
    rw [Nat.succ_mul]
    omega
theorem elemsB_len2 (w : Nat) (vs : List Bv) (l : List UInt8) : (elemsB w l vs).length = l.length + vs.length * w := by
  obtain ⟨m, e, h⟩ := elemsB_app w vs l
  rw [e, List.length_append, h, Nat.mul_comm]
set_option maxHeartbeats 400000 in
theorem vlow_spec (n y : Nat) (w : World) (hy : isW (y : Int) = true) :
    Calls Tryz.prog 266 #[.int .u64 (n : Int), .int .i64 (y : Int)] w fun e w' => e = .returned (.int .u64 ((n % 2 ^ (8 * y) : Nat) : Int)) ∧ w = w' := by
  rcases w_cases hy with rfl | rfl | rfl | rfl
  · have HL := Lib.hid (show IntKind.u64.wrap ((n : Int) * 72057594037927936) / 72057594037927936 = ((n % 2 ^ (8 * 1) : Nat) : Int) from low_cut n 8 (by omega))
    clear hy
    go_enter Tryz.func266, Tryz.ntmps266
    go_wp2_with fail
    go_ret
    exact ⟨ret_int HL.out, rfl⟩
  · have HL := Lib.hid (show IntKind.u64.wrap ((n : Int) * 281474976710656) / 281474976710656 = ((n % 2 ^ (8 * 2) : Nat) : Int) from low_cut n 16 (by omega))
    clear hy
    go_enter Tryz.func266, Tryz.ntmps266
    go_wp2_with fail
    go_ret
    exact ⟨ret_int HL.out, rfl⟩
  · have HL := Lib.hid (show IntKind.u64.wrap ((n : Int) * 4294967296) / 4294967296 = ((n % 2 ^ (8 * 4) : Nat) : Int) from low_cut n 32 (by omega))
    clear hy
    go_enter Tryz.func266, Tryz.ntmps266
    go_wp2_with fail
    go_ret
    exact ⟨ret_int HL.out, rfl⟩
  · have HL := Lib.hid (show IntKind.u64.wrap (n : Int) = ((n % 2 ^ (8 * 8) : Nat) : Int) by have h := low_cut n 64 (by omega); simpa using h)
    clear hy
    go_enter Tryz.func266, Tryz.ntmps266
    go_wp2_with fail
    go_ret
    exact ⟨ret_int HL.out, rfl⟩
set_option maxRecDepth 100000 in
set_option maxHeartbeats 2000000 in
theorem elements_spec (b y n c : Nat) (A : Option Addr) (vs : List Bv) (l : List UInt8) (w : World) (o : Nat → Nat) (h : Buf w o b l) (hv : IsV w A n (vs.map vv)) (ho : ∀ ad, A = some ad → o ad.block ≠ 1) (hy : isW (y : Int) = true)
    (hE : ∀ (i : Nat) v, vs[i]? = some v → inl v.t = false → v.n ≤ l.length + i * y ∧ l.length + i * y - v.n < 2 ^ (8 * y)) (hm : l.length + vs.length * y ≤ 1048576) (hn : n ≤ 1000000) :
    Calls Tryz.prog 244 #[.pointer (some ⟨b, 0, none⟩), .int .i64 (y : Int), .slice A n c] w (BufTo w o b (elemsB y l vs)) := by
  have H := Lib.hid h
  have HV := Lib.hid hv
  have HOO := Lib.hid ho
  have HY := Lib.hid hy
  have HE := Lib.hid hE
  have HM := Lib.hid hm
  have HVL := Lib.hid (isv_len hv)
  clear h hv ho hE hm hy
  go_enter Tryz.func244, Tryz.ntmps244
  go_wp2_with fail
  go_loopw [10] (fun u wr => ∃ k : Nat, k ≤ n ∧ u = .int .i64 k ∧ ∃ o', Buf wr o' b (elemsB y l (vs.take k)) ∧ To (fun i => i = 1) w o wr o' ∧ IsV wr A n (vs.map vv) ∧ ∀ ad, A = some ad → o' ad.block ≠ 1) (fun u _ => n - (intOf u).toNat)
  case atStart => exact ⟨0, Nat.zero_le _, rfl, o, by rw [List.take_zero]; exact H.out, To.refl _ _ _, HV.out, HOO.out⟩
  case round =>
    obtain ⟨k, hk, rfl, o', hb, ht, hvr, hor⟩ := hrel
    have HBR := Lib.hid hb
    have HTR := Lib.hid ht
    have HVR := Lib.hid hvr
    have HOR := Lib.hid hor
    clear H HV HOO hb ht hvr hor
    by_cases hlt : k < n
    · obtain ⟨g, off, v, rfl, hvk, h0, h1, h2⟩ := isv_bv HVR.out hlt
      have HLT := Lib.hid (show g < wr.heap.size from lt_of_cell h0)
      have HT := Lib.hid (elemsB_take y vs k v l hvk)
      obtain ⟨m, hml⟩ : ∃ m, l.length + k * y = m := ⟨_, rfl⟩
      have hme : (elemsB y l (vs.take k)).length = m := by rw [elemsB_len2, List.length_take, HVL.out, Nat.min_eq_left (by omega)]; exact hml
      have hmy : m + y ≤ 1048576 := by
        have h3 := HM.out
        rw [HVL.out] at h3
        have h4 : (k + 1) * y ≤ n * y := Nat.mul_le_mul_right y (by omega)
        rw [Nat.succ_mul] at h4
        omega
      have hEk := HE.out k v hvk
      rw [hml] at hEk
      obtain ⟨q, hq⟩ : ∃ q, elemN y m v = q := ⟨_, rfl⟩
      rw [hml, hq] at HT
      have HMY := Lib.hid (show (elemsB y l (vs.take k)).length + y ≤ 1048576 by rw [hme]; exact hmy)
      have HME := Lib.hid hme
      have HQ := Lib.hid hq
      have HEK := Lib.hid hEk
      have hk0 : (0 : Int) ≤ (k : Int) := by omega
      have hkn : (k : Int) < (n : Int) := by omega
      have hmb : m ≤ 1048576 := by omega
      have hBA := (Below.refl wr.heap.size wr).alloc (Nat.le_refl _) (.cells #[.int .i64 (v.t : Int), .int .i64 (v.w : Int), .int .u64 (v.n : Int)] 185)
      have HBA := Lib.hid hBA
      have HBF := Lib.hid (HBR.out.fresh hBA 0)
      have HXA := Lib.hid (Blk.new wr 185 #[.int .i64 (v.t : Int), .int .i64 (v.w : Int), .int .u64 (v.n : Int)])
      have HX0 := Lib.hid (show newO o' wr.heap.size 0 wr.heap.size = 0 from newO_new (Nat.le_refl _))
      have HTA0 := Lib.hid (To.fresh (fun i => i = 1) hBA o' 0)
      obtain ⟨iv, hiv⟩ : ∃ x, inlineT (v.t : Int) = x := ⟨_, rfl⟩
      have HIV := Lib.hid hiv
      clear hml hme hmy hvk hEk hq hBA hiv
      go_wp2_with fail
      go_at_call 17
      generalize wr.alloc (.cells #[.int .i64 (v.t : Int), .int .i64 (v.w : Int), .int .u64 (v.n : Int)] 185) = wa at HBA HBF HXA HTA0 ⊢
      generalize newO o' wr.heap.size 0 = oa at HBF HX0 HTA0
      refine (inline_spec (v.t : Int) _).mono ?_
      rw [HIV.out]
      rintro e w2 ⟨rfl, hb⟩
      have HTA := Lib.hid (HTA0.out.trans (To.pure _ hb oa))
      have HB2 := Lib.hid (HBF.out.pure hb)
      have HX2 := Lib.hid (HXA.out.pure hb)
      have x2 : w2.cell? ⟨wr.heap.size, 2, none⟩ = some (.int .u64 (v.n : Int)) := HX2.out.cell 2
      clear hb h0 h1 h2 HTA0 HBF HXA
      cases iv with
      | true =>
        have hin : inl v.t = true := HIV.out
        have HQ2 := Lib.hid (show v.n % 2 ^ (8 * y) = q by rw [← HQ.out]; unfold elemN; rw [if_pos hin])
        have hvl := vlow_spec v.n y w2 HY.out
        rw [HQ2.out] at hvl
        have HVLW := Lib.hid hvl
        have HFQ := Lib.hid (show fitsU y q = true by rw [← HQ2.out]; exact fits_low _ _)
        have HLQ := Lib.hid (show (q : Int) < 18446744073709551616 by rw [← HQ2.out]; exact low_lt _ HY.out)
        clear hin hvl
        go_wp2_with fail
        go_at_call 266
        refine HVLW.out.mono ?_
        rintro e w' ⟨rfl, rfl⟩
        clear x2
        go_wp2_with fail
        go_at_call 133
        refine (bnum_spec b y q _ _ _ HB2.out HY.out HFQ.out HLQ.out HMY.out).mono ?_
        rintro e w4 ⟨rfl, o4, hB4, hT4⟩
        have HB4 := Lib.hid (show Buf w4 o4 b (elemsB y l (vs.take (k + 1))) by rw [HT.out]; exact hB4)
        have HT4 := Lib.hid ((HTA.out).trans hT4)
        have HV4 := Lib.hid (HVR.out.fr (HT4.out).fr (fun ad h => HOR.out ad h))
        have HO4 := Lib.hid (show ∀ ad, (some ⟨g, off, none⟩ : Option Addr) = some ad → o4 ad.block ≠ 1 from fun ad h => by
          rw [HT4.out.ow ad.block (by injection h with h; subst h; exact HLT.out)]
          exact HOR.out ad h)
        clear hB4 hT4
        go_wp2_with fail
        go_roundw
        case rel => exact ⟨k + 1, by omega, by go_num, o4, HB4.out, HTR.out.trans HT4.out, HV4.out, HO4.out⟩
        case measure => simp [intOf]; omega
      | false =>
        have hin : inl v.t = false := HIV.out
        obtain ⟨hle, hfit⟩ := HEK.out hin
        have hne : ¬ inl v.t = true := by rw [hin]; decide
        have hq2 : m - v.n = q := by rw [← HQ.out]; unfold elemN; rw [if_neg hne]
        have HFQ := Lib.hid (show fitsU y q = true from decide_eq_true (.inr (by rw [← hq2]; exact hfit)))
        have HLQ := Lib.hid (show (q : Int) < 18446744073709551616 by omega)
        have e1 : IntKind.u64.wrap (m : Int) = m := u64_in _ (by omega)
        have e2 : (m : Int) - (v.n : Int) = q := by omega
        have e3 : IntKind.u64.wrap (q : Int) = q := u64_in _ (by omega)
        clear hin hle hfit hne hq2
        go_wp2_with fail
        go_region_held3 (fun w' => w'.cell? ⟨wr.heap.size, 2, none⟩ = some (.int .u64 (v.n : Int))) (first | with_reducible exact x2 | with_reducible exact kdrew x2 | with_reducible exact kdrewN _ x2 | with_reducible exact y2) (first | (go_at_call 129; (with_reducible refine (blen_is m (HB2.out.pure (Below.refl _ _).drew) HME.out).mono ?_); rintro e w' ⟨rfl, rfl⟩) | (go_at_call 133; (with_reducible refine (bnum_spec b y q _ _ _ (HB2.out.pure (Below.refl _ _).drew) HY.out HFQ.out HLQ.out HMY.out).mono ?_); rintro e w4 ⟨rfl, o4, hB4, hT4⟩; have y2 : w4.cell? ⟨wr.heap.size, 2, none⟩ = some (.int .u64 (v.n : Int)) := (HX2.out.to_ (To.from_drew hT4) (by rw [HX0.out]; omega)).cell 2; have HRAW := Lib.hid (And.intro hB4 (To.from_drew hT4)); clear hB4 hT4))
        obtain ⟨hB4, hT4⟩ := HRAW.out
        have HB4 := Lib.hid (show Buf w4 o4 b (elemsB y l (vs.take (k + 1))) by rw [HT.out]; exact hB4)
        have HT4 := Lib.hid ((HTA.out).trans hT4)
        have HV4 := Lib.hid (HVR.out.fr (HT4.out).fr (fun ad h => HOR.out ad h))
        have HO4 := Lib.hid (show ∀ ad, (some ⟨g, off, none⟩ : Option Addr) = some ad → o4 ad.block ≠ 1 from fun ad h => by
          rw [HT4.out.ow ad.block (by injection h with h; subst h; exact HLT.out)]
          exact HOR.out ad h)
        clear hB4 hT4 x2 y2 e1 e2 e3
        go_wp2_with fail
        go_roundw
        case rel => exact ⟨k + 1, by omega, by go_num, o4, HB4.out, HTR.out.trans HT4.out, HV4.out, HO4.out⟩
        case measure => simp [intOf]; omega
    · have hd1 : decide ((k : Int) < (n : Int)) = false := decide_eq_false (by omega)
      have hd2 : decide (k < n) = false := decide_eq_false (by omega)
      have HE2 := Lib.hid (show vs.take k = vs from List.take_of_length_le (by have := HVL.out; omega))
      go_wp2_with fail
      go_end0
      exact ⟨rfl, o', by have h := HBR.out; rw [HE2.out] at h; exact h, HTR.out⟩
end Go.Proofs.YtfoifdoaleaekaaGreat

namespace Go.Proofs.YtfoifdoaleaekaaGreat
open Go.RowKit Go.Acc
theorem one_byte (W : World) (t : UInt8) : IsB (W.alloc (.cells #[.int .u8 (t.toNat : Int)] 5)) (some ⟨W.heap.size, 0, none⟩) 1 [t] := by
  refine ⟨rfl, fun j u hu => ⟨_, _, rfl, ?_⟩⟩
  rw [Nat.zero_add, (Blk.new W _ _).cell j]
  simpa [bc] using hu
end Go.Proofs.YtfoifdoaleaekaaGreat

namespace Go.Proofs.YtfoifdoaleaekaaGreat
open Go.RowKit Go.Acc
structure MwS (b g1 g2 : Nat) (y : Int) (v : Bv) (l : List UInt8) (w : World) (o : Nat → Nat) : Prop where
  m : Buf w o b l
  x : Blk w g1 304 #[.pointer (some ⟨b, 0, none⟩), .int .i64 y]
  v : Blk w g2 185 #[.int .i64 (v.t : Int), .int .i64 (v.w : Int), .int .u64 (v.n : Int)]
section
variable {b g1 g2 : Nat} {y : Int} {v : Bv} {l : List UInt8} {w w' : World} {o : Nat → Nat}
theorem MwS.pure (h : MwS b g1 g2 y v l w o) (hb : Below w.heap.size w w') : MwS b g1 g2 y v l w' o := ⟨h.m.pure hb, h.x.pure hb, h.v.pure hb⟩
theorem MwS.cells (h : MwS b g1 g2 y v l w o) : w.cell? ⟨g1, 0, none⟩ = some (.pointer (some ⟨b, 0, none⟩)) ∧ w.cell? ⟨g1, 1, none⟩ = some (.int .i64 y) ∧ w.cell? ⟨g2, 0, none⟩ = some (.int .i64 (v.t : Int)) ∧ w.cell? ⟨g2, 1, none⟩ = some (.int .i64 (v.w : Int)) ∧ w.cell? ⟨g2, 2, none⟩ = some (.int .u64 (v.n : Int)) :=
  ⟨h.x.cell 0, h.x.cell 1, h.v.cell 0, h.v.cell 1, h.v.cell 2⟩
end
theorem low_cut64 (n : Nat) : IntKind.u64.wrap (n : Int) = ((n % 2 ^ (8 * 8) : Nat) : Int) := by
  have h := low_cut n 64 (by omega)
  simpa using h
set_option maxRecDepth 100000 in
set_option maxHeartbeats 2000000 in
theorem element_inl (b y : Nat) (v : Bv) (l : List UInt8) (w : World) (o : Nat → Nat) (h : Buf w o b l) (hy : isW (y : Int) = true) (hi : inl v.t = true) (hl : l.length + y ≤ 1048576) :
    Calls Tryz.prog 251 #[.agg #[.pointer (some ⟨b, 0, none⟩), .int .i64 (y : Int)], .agg #[.int .i64 (v.t : Int), .int .i64 (v.w : Int), .int .u64 (v.n : Int)]] w (BufTo w o b (l ++ leBytes y (v.n % 2 ^ (8 * y)))) := by
  rcases w_cases hy with rfl | rfl | rfl | rfl
  · clear hy
    have HL := Lib.hid (show IntKind.u64.wrap ((v.n : Int) * 72057594037927936) / 72057594037927936 = ((v.n % 2 ^ (8 * 1) : Nat) : Int) from low_cut v.n 8 (by omega))
    have HY := Lib.hid (show isW ((1 : Nat) : Int) = true by decide)
    have HMM := Lib.hid (rfl : l.length = l.length)
    obtain ⟨m, hm⟩ : ∃ m, l.length = m := ⟨_, rfl⟩
    replace HMM := Lib.hid hm
    have HLL := Lib.hid (show l.length + 1 ≤ 1048576 by omega)
    have HFQ := Lib.hid (fits_low v.n 1)
    have HLQ := Lib.hid (low_lt v.n (y := 1) (by decide))
    have HIV := Lib.hid (show inlineT (v.t : Int) = true from hi)
    clear hi hm hl
    have hB0 := below_two w (.cells #[.pointer (some ⟨b, 0, none⟩), .int .i64 1] 304) (.cells #[.int .i64 (v.t : Int), .int .i64 (v.w : Int), .int .u64 (v.n : Int)] 185)
    have HB0 := Lib.hid hB0
    have HS0 := Lib.hid (show MwS b w.heap.size (w.heap.size + 1) 1 v l ((w.alloc (.cells #[.pointer (some ⟨b, 0, none⟩), .int .i64 1] 304)).alloc (.cells #[.int .i64 (v.t : Int), .int .i64 (v.w : Int), .int .u64 (v.n : Int)] 185)) o from ⟨h.pure hB0, (Blk.new w 304 #[.pointer (some ⟨b, 0, none⟩), .int .i64 1]).alloc _, blk_new2 w _ _ _⟩)
    clear hB0 h
    go_enter Tryz.func251, Tryz.ntmps251
    go_wp2_with fail
    generalize (w.alloc (.cells #[.pointer (some ⟨b, 0, none⟩), .int .i64 1] 304)).alloc (.cells #[.int .i64 (v.t : Int), .int .i64 (v.w : Int), .int .u64 (v.n : Int)] 185) = w1 at HB0 HS0 ⊢
    generalize w.heap.size + 1 = g2 at HS0 ⊢
    generalize hg1 : w.heap.size = g1 at HS0 ⊢
    clear hg1
    obtain ⟨x0, x1, x2, x3, x4⟩ := HS0.out.cells
    go_region_held3 (fun w' => w'.cell? ⟨g1, 0, none⟩ = some (.pointer (some ⟨b, 0, none⟩)) ∧ w'.cell? ⟨g2, 2, none⟩ = some (.int .u64 (v.n : Int))) (first | with_reducible exact ⟨x0, x4⟩ | with_reducible exact ⟨kdrew x0, kdrew x4⟩) (first | (go_at_call 129; (with_reducible refine (blen_is m (HS0.out.pure (Below.refl _ _).drew).m HMM.out).mono ?_); rintro e w' ⟨rfl, rfl⟩))
    have HS1 := Lib.hid (HS0.out.pure (Below.refl _ _).drew)
    have HB1 := Lib.hid HB0.out.drew
    generalize w1.drew = w2 at HS1 HB1 ⊢
    clear x0 x1 x2 x3 x4 HS0 HB0
    obtain ⟨x0, x1, x2, x3, x4⟩ := HS1.out.cells
    go_wp2_with fail
    go_at_call 17
    refine (inline_spec (v.t : Int) _).mono ?_
    rw [HIV.out]
    rintro e w3 ⟨rfl, hb⟩
    have HB2 := Lib.hid (pure_below HB1.out hb)
    have HS2 := Lib.hid (HS1.out.pure hb)
    clear hb x0 x1 x2 x3 x4
    obtain ⟨x0, x1, x2, x3, x4⟩ := HS2.out.cells
    go_wp2_with fail
    rw [HL.out]
    go_at_call 133
    refine (bnum_spec b 1 (v.n % 2 ^ (8 * 1)) l _ o HS2.out.m HY.out HFQ.out HLQ.out HLL.out).mono ?_
    rintro e w4 hR
    have HR := Lib.hid (BufTo.from_pure HB2.out hR)
    obtain rfl := hR.1
    clear hR x0 x1 x2 x3 x4
    go_wp2_with fail
    go_end0
    exact HR.out
  · clear hy
    have HL := Lib.hid (show IntKind.u64.wrap ((v.n : Int) * 281474976710656) / 281474976710656 = ((v.n % 2 ^ (8 * 2) : Nat) : Int) from low_cut v.n 16 (by omega))
    have HY := Lib.hid (show isW ((2 : Nat) : Int) = true by decide)
    have HMM := Lib.hid (rfl : l.length = l.length)
    obtain ⟨m, hm⟩ : ∃ m, l.length = m := ⟨_, rfl⟩
    replace HMM := Lib.hid hm
    have HLL := Lib.hid (show l.length + 2 ≤ 1048576 by omega)
    have HFQ := Lib.hid (fits_low v.n 2)
    have HLQ := Lib.hid (low_lt v.n (y := 2) (by decide))
    have HIV := Lib.hid (show inlineT (v.t : Int) = true from hi)
    clear hi hm hl
    have hB0 := below_two w (.cells #[.pointer (some ⟨b, 0, none⟩), .int .i64 2] 304) (.cells #[.int .i64 (v.t : Int), .int .i64 (v.w : Int), .int .u64 (v.n : Int)] 185)
    have HB0 := Lib.hid hB0
    have HS0 := Lib.hid (show MwS b w.heap.size (w.heap.size + 1) 2 v l ((w.alloc (.cells #[.pointer (some ⟨b, 0, none⟩), .int .i64 2] 304)).alloc (.cells #[.int .i64 (v.t : Int), .int .i64 (v.w : Int), .int .u64 (v.n : Int)] 185)) o from ⟨h.pure hB0, (Blk.new w 304 #[.pointer (some ⟨b, 0, none⟩), .int .i64 2]).alloc _, blk_new2 w _ _ _⟩)
    clear hB0 h
    go_enter Tryz.func251, Tryz.ntmps251
    go_wp2_with fail
    generalize (w.alloc (.cells #[.pointer (some ⟨b, 0, none⟩), .int .i64 2] 304)).alloc (.cells #[.int .i64 (v.t : Int), .int .i64 (v.w : Int), .int .u64 (v.n : Int)] 185) = w1 at HB0 HS0 ⊢
    generalize w.heap.size + 1 = g2 at HS0 ⊢
    generalize hg1 : w.heap.size = g1 at HS0 ⊢
    clear hg1
    obtain ⟨x0, x1, x2, x3, x4⟩ := HS0.out.cells
    go_region_held3 (fun w' => w'.cell? ⟨g1, 0, none⟩ = some (.pointer (some ⟨b, 0, none⟩)) ∧ w'.cell? ⟨g2, 2, none⟩ = some (.int .u64 (v.n : Int))) (first | with_reducible exact ⟨x0, x4⟩ | with_reducible exact ⟨kdrew x0, kdrew x4⟩) (first | (go_at_call 129; (with_reducible refine (blen_is m (HS0.out.pure (Below.refl _ _).drew).m HMM.out).mono ?_); rintro e w' ⟨rfl, rfl⟩))
    have HS1 := Lib.hid (HS0.out.pure (Below.refl _ _).drew)
    have HB1 := Lib.hid HB0.out.drew
    generalize w1.drew = w2 at HS1 HB1 ⊢
    clear x0 x1 x2 x3 x4 HS0 HB0
    obtain ⟨x0, x1, x2, x3, x4⟩ := HS1.out.cells
    go_wp2_with fail
    go_at_call 17
    refine (inline_spec (v.t : Int) _).mono ?_
    rw [HIV.out]
    rintro e w3 ⟨rfl, hb⟩
    have HB2 := Lib.hid (pure_below HB1.out hb)
    have HS2 := Lib.hid (HS1.out.pure hb)
    clear hb x0 x1 x2 x3 x4
    obtain ⟨x0, x1, x2, x3, x4⟩ := HS2.out.cells
    go_wp2_with fail
    rw [HL.out]
    go_at_call 133
    refine (bnum_spec b 2 (v.n % 2 ^ (8 * 2)) l _ o HS2.out.m HY.out HFQ.out HLQ.out HLL.out).mono ?_
    rintro e w4 hR
    have HR := Lib.hid (BufTo.from_pure HB2.out hR)
    obtain rfl := hR.1
    clear hR x0 x1 x2 x3 x4
    go_wp2_with fail
    go_end0
    exact HR.out
  · clear hy
    have HL := Lib.hid (show IntKind.u64.wrap ((v.n : Int) * 4294967296) / 4294967296 = ((v.n % 2 ^ (8 * 4) : Nat) : Int) from low_cut v.n 32 (by omega))
    have HY := Lib.hid (show isW ((4 : Nat) : Int) = true by decide)
    have HMM := Lib.hid (rfl : l.length = l.length)
    obtain ⟨m, hm⟩ : ∃ m, l.length = m := ⟨_, rfl⟩
    replace HMM := Lib.hid hm
    have HLL := Lib.hid (show l.length + 4 ≤ 1048576 by omega)
    have HFQ := Lib.hid (fits_low v.n 4)
    have HLQ := Lib.hid (low_lt v.n (y := 4) (by decide))
    have HIV := Lib.hid (show inlineT (v.t : Int) = true from hi)
    clear hi hm hl
    have hB0 := below_two w (.cells #[.pointer (some ⟨b, 0, none⟩), .int .i64 4] 304) (.cells #[.int .i64 (v.t : Int), .int .i64 (v.w : Int), .int .u64 (v.n : Int)] 185)
    have HB0 := Lib.hid hB0
    have HS0 := Lib.hid (show MwS b w.heap.size (w.heap.size + 1) 4 v l ((w.alloc (.cells #[.pointer (some ⟨b, 0, none⟩), .int .i64 4] 304)).alloc (.cells #[.int .i64 (v.t : Int), .int .i64 (v.w : Int), .int .u64 (v.n : Int)] 185)) o from ⟨h.pure hB0, (Blk.new w 304 #[.pointer (some ⟨b, 0, none⟩), .int .i64 4]).alloc _, blk_new2 w _ _ _⟩)
    clear hB0 h
    go_enter Tryz.func251, Tryz.ntmps251
    go_wp2_with fail
    generalize (w.alloc (.cells #[.pointer (some ⟨b, 0, none⟩), .int .i64 4] 304)).alloc (.cells #[.int .i64 (v.t : Int), .int .i64 (v.w : Int), .int .u64 (v.n : Int)] 185) = w1 at HB0 HS0 ⊢
    generalize w.heap.size + 1 = g2 at HS0 ⊢
    generalize hg1 : w.heap.size = g1 at HS0 ⊢
    clear hg1
    obtain ⟨x0, x1, x2, x3, x4⟩ := HS0.out.cells
    go_region_held3 (fun w' => w'.cell? ⟨g1, 0, none⟩ = some (.pointer (some ⟨b, 0, none⟩)) ∧ w'.cell? ⟨g2, 2, none⟩ = some (.int .u64 (v.n : Int))) (first | with_reducible exact ⟨x0, x4⟩ | with_reducible exact ⟨kdrew x0, kdrew x4⟩) (first | (go_at_call 129; (with_reducible refine (blen_is m (HS0.out.pure (Below.refl _ _).drew).m HMM.out).mono ?_); rintro e w' ⟨rfl, rfl⟩))
    have HS1 := Lib.hid (HS0.out.pure (Below.refl _ _).drew)
    have HB1 := Lib.hid HB0.out.drew
    generalize w1.drew = w2 at HS1 HB1 ⊢
    clear x0 x1 x2 x3 x4 HS0 HB0
    obtain ⟨x0, x1, x2, x3, x4⟩ := HS1.out.cells
    go_wp2_with fail
    go_at_call 17
    refine (inline_spec (v.t : Int) _).mono ?_
    rw [HIV.out]
    rintro e w3 ⟨rfl, hb⟩
    have HB2 := Lib.hid (pure_below HB1.out hb)
    have HS2 := Lib.hid (HS1.out.pure hb)
    clear hb x0 x1 x2 x3 x4
    obtain ⟨x0, x1, x2, x3, x4⟩ := HS2.out.cells
    go_wp2_with fail
    rw [HL.out]
    go_at_call 133
    refine (bnum_spec b 4 (v.n % 2 ^ (8 * 4)) l _ o HS2.out.m HY.out HFQ.out HLQ.out HLL.out).mono ?_
    rintro e w4 hR
    have HR := Lib.hid (BufTo.from_pure HB2.out hR)
    obtain rfl := hR.1
    clear hR x0 x1 x2 x3 x4
    go_wp2_with fail
    go_end0
    exact HR.out
  · clear hy
    have HL := Lib.hid (low_cut64 v.n)
    have HY := Lib.hid (show isW ((8 : Nat) : Int) = true by decide)
    have HMM := Lib.hid (rfl : l.length = l.length)
    obtain ⟨m, hm⟩ : ∃ m, l.length = m := ⟨_, rfl⟩
    replace HMM := Lib.hid hm
    have HLL := Lib.hid (show l.length + 8 ≤ 1048576 by omega)
    have HFQ := Lib.hid (fits_low v.n 8)
    have HLQ := Lib.hid (low_lt v.n (y := 8) (by decide))
    have HIV := Lib.hid (show inlineT (v.t : Int) = true from hi)
    clear hi hm hl
    have hB0 := below_two w (.cells #[.pointer (some ⟨b, 0, none⟩), .int .i64 8] 304) (.cells #[.int .i64 (v.t : Int), .int .i64 (v.w : Int), .int .u64 (v.n : Int)] 185)
    have HB0 := Lib.hid hB0
    have HS0 := Lib.hid (show MwS b w.heap.size (w.heap.size + 1) 8 v l ((w.alloc (.cells #[.pointer (some ⟨b, 0, none⟩), .int .i64 8] 304)).alloc (.cells #[.int .i64 (v.t : Int), .int .i64 (v.w : Int), .int .u64 (v.n : Int)] 185)) o from ⟨h.pure hB0, (Blk.new w 304 #[.pointer (some ⟨b, 0, none⟩), .int .i64 8]).alloc _, blk_new2 w _ _ _⟩)
    clear hB0 h
    go_enter Tryz.func251, Tryz.ntmps251
    go_wp2_with fail
    generalize (w.alloc (.cells #[.pointer (some ⟨b, 0, none⟩), .int .i64 8] 304)).alloc (.cells #[.int .i64 (v.t : Int), .int .i64 (v.w : Int), .int .u64 (v.n : Int)] 185) = w1 at HB0 HS0 ⊢
    generalize w.heap.size + 1 = g2 at HS0 ⊢
    generalize hg1 : w.heap.size = g1 at HS0 ⊢
    clear hg1
    obtain ⟨x0, x1, x2, x3, x4⟩ := HS0.out.cells
    go_region_held3 (fun w' => w'.cell? ⟨g1, 0, none⟩ = some (.pointer (some ⟨b, 0, none⟩)) ∧ w'.cell? ⟨g2, 2, none⟩ = some (.int .u64 (v.n : Int))) (first | with_reducible exact ⟨x0, x4⟩ | with_reducible exact ⟨kdrew x0, kdrew x4⟩) (first | (go_at_call 129; (with_reducible refine (blen_is m (HS0.out.pure (Below.refl _ _).drew).m HMM.out).mono ?_); rintro e w' ⟨rfl, rfl⟩))
    have HS1 := Lib.hid (HS0.out.pure (Below.refl _ _).drew)
    have HB1 := Lib.hid HB0.out.drew
    generalize w1.drew = w2 at HS1 HB1 ⊢
    clear x0 x1 x2 x3 x4 HS0 HB0
    obtain ⟨x0, x1, x2, x3, x4⟩ := HS1.out.cells
    go_wp2_with fail
    go_at_call 17
    refine (inline_spec (v.t : Int) _).mono ?_
    rw [HIV.out]
    rintro e w3 ⟨rfl, hb⟩
    have HB2 := Lib.hid (pure_below HB1.out hb)
    have HS2 := Lib.hid (HS1.out.pure hb)
    clear hb x0 x1 x2 x3 x4
    obtain ⟨x0, x1, x2, x3, x4⟩ := HS2.out.cells
    go_wp2_with fail
    rw [HL.out]
    go_at_call 133
    refine (bnum_spec b 8 (v.n % 2 ^ (8 * 8)) l _ o HS2.out.m HY.out HFQ.out HLQ.out HLL.out).mono ?_
    rintro e w4 hR
    have HR := Lib.hid (BufTo.from_pure HB2.out hR)
    obtain rfl := hR.1
    clear hR x0 x1 x2 x3 x4
    go_wp2_with fail
    go_end0
    exact HR.out
set_option maxRecDepth 100000 in
set_option maxHeartbeats 2000000 in
theorem element_off (b y q m : Nat) (v : Bv) (l : List UInt8) (w : World) (o : Nat → Nat) (h : Buf w o b l) (hy : isW (y : Int) = true) (hi : inl v.t = false) (hm : l.length = m) (hle : v.n ≤ m) (hq : m - v.n = q) (hfit : q < 2 ^ (8 * y)) (hl : m + y ≤ 1048576) :
    Calls Tryz.prog 251 #[.agg #[.pointer (some ⟨b, 0, none⟩), .int .i64 (y : Int)], .agg #[.int .i64 (v.t : Int), .int .i64 (v.w : Int), .int .u64 (v.n : Int)]] w (BufTo w o b (l ++ leBytes y q)) := by
  have HY := Lib.hid hy
  have HMM := Lib.hid hm
  have HLL := Lib.hid (show l.length + y ≤ 1048576 by omega)
  have HFQ := Lib.hid (show fitsU y q = true from decide_eq_true (.inr hfit))
  have HLQ := Lib.hid (show (q : Int) < 18446744073709551616 by omega)
  have HIV := Lib.hid (show inlineT (v.t : Int) = false from hi)
  have e1 : IntKind.u64.wrap (m : Int) = m := u64_in _ (by omega)
  have e2 : (m : Int) - (v.n : Int) = q := by omega
  have e3 : IntKind.u64.wrap (q : Int) = q := u64_in _ (by omega)
  clear hy hm hfit hi hq hle hl
  have hB0 := below_two w (.cells #[.pointer (some ⟨b, 0, none⟩), .int .i64 (y : Int)] 304) (.cells #[.int .i64 (v.t : Int), .int .i64 (v.w : Int), .int .u64 (v.n : Int)] 185)
  have HB0 := Lib.hid hB0
  have HS0 := Lib.hid (show MwS b w.heap.size (w.heap.size + 1) (y : Int) v l ((w.alloc (.cells #[.pointer (some ⟨b, 0, none⟩), .int .i64 (y : Int)] 304)).alloc (.cells #[.int .i64 (v.t : Int), .int .i64 (v.w : Int), .int .u64 (v.n : Int)] 185)) o from ⟨h.pure hB0, (Blk.new w 304 #[.pointer (some ⟨b, 0, none⟩), .int .i64 (y : Int)]).alloc _, blk_new2 w _ _ _⟩)
  clear hB0 h
  go_enter Tryz.func251, Tryz.ntmps251
  go_wp2_with fail
  generalize (w.alloc (.cells #[.pointer (some ⟨b, 0, none⟩), .int .i64 (y : Int)] 304)).alloc (.cells #[.int .i64 (v.t : Int), .int .i64 (v.w : Int), .int .u64 (v.n : Int)] 185) = w1 at HB0 HS0 ⊢
  generalize w.heap.size + 1 = g2 at HS0 ⊢
  generalize hg1 : w.heap.size = g1 at HS0 ⊢
  clear hg1
  obtain ⟨x0, x1, x2, x3, x4⟩ := HS0.out.cells
  go_region_held3 (fun w' => w'.cell? ⟨g1, 0, none⟩ = some (.pointer (some ⟨b, 0, none⟩)) ∧ w'.cell? ⟨g2, 2, none⟩ = some (.int .u64 (v.n : Int))) (first | with_reducible exact ⟨x0, x4⟩ | with_reducible exact ⟨kdrew x0, kdrew x4⟩) (first | (go_at_call 129; (with_reducible refine (blen_is m (HS0.out.pure (Below.refl _ _).drew).m HMM.out).mono ?_); rintro e w' ⟨rfl, rfl⟩))
  have HS1 := Lib.hid (HS0.out.pure (Below.refl _ _).drew)
  have HB1 := Lib.hid HB0.out.drew
  generalize w1.drew = w2 at HS1 HB1 ⊢
  clear x0 x1 x2 x3 x4 e1 e2 e3 HS0 HB0
  obtain ⟨x0, x1, x2, x3, x4⟩ := HS1.out.cells
  go_wp2_with fail
  go_at_call 17
  refine (inline_spec (v.t : Int) _).mono ?_
  rw [HIV.out]
  rintro e w3 ⟨rfl, hb⟩
  have HB2 := Lib.hid (pure_below HB1.out hb)
  have HS2 := Lib.hid (HS1.out.pure hb)
  clear hb x0 x1 x2 x3 x4
  obtain ⟨x0, x1, x2, x3, x4⟩ := HS2.out.cells
  go_wp2_with fail
  go_at_call 133
  refine (bnum_spec b y q l _ o HS2.out.m HY.out HFQ.out HLQ.out HLL.out).mono ?_
  rintro e w4 hR
  have HR := Lib.hid (BufTo.from_pure HB2.out hR)
  obtain rfl := hR.1
  clear hR x0 x1 x2 x3 x4
  go_wp2_with fail
  go_end0
  exact HR.out
theorem element_spec (b y : Nat) (v : Bv) (l : List UInt8) (w : World) (o : Nat → Nat) (h : Buf w o b l) (hy : isW (y : Int) = true) (hf : inl v.t = false → v.n ≤ l.length ∧ l.length - v.n < 2 ^ (8 * y)) (hl : l.length + y ≤ 1048576) :
    Calls Tryz.prog 251 #[.agg #[.pointer (some ⟨b, 0, none⟩), .int .i64 (y : Int)], .agg #[.int .i64 (v.t : Int), .int .i64 (v.w : Int), .int .u64 (v.n : Int)]] w (BufTo w o b (l ++ leBytes y (elemN y l.length v))) := by
  cases hi : inl v.t with
  | true =>
    have e : elemN y l.length v = v.n % 2 ^ (8 * y) := by unfold elemN; rw [if_pos hi]
    rw [e]
    exact element_inl b y v l w o h hy hi hl
  | false =>
    have e : elemN y l.length v = l.length - v.n := by unfold elemN; rw [if_neg (by rw [hi]; decide)]
    rw [e]
    obtain ⟨h1, h2⟩ := hf hi
    exact element_off b y _ l.length v l w o h hy hi rfl h1 rfl h2 hl
set_option maxRecDepth 100000 in
set_option maxHeartbeats 2000000 in
theorem mtag_spec (b y : Nat) (v : Bv) (l : List UInt8) (w : World) (o : Nat → Nat) (h : Buf w o b l) (hy : isW (y : Int) = true) (hlg : legalT (v.t : Int) = true) (hww : isW (v.w : Int) = true) (hl : l.length + 1 ≤ 1048576) :
    Calls Tryz.prog 252 #[.agg #[.pointer (some ⟨b, 0, none⟩), .int .i64 (y : Int)], .agg #[.int .i64 (v.t : Int), .int .i64 (v.w : Int), .int .u64 (v.n : Int)]] w (BufTo w o b (l ++ [bTag y v])) := by
  obtain ⟨ow, how⟩ : ∃ x, (if inl v.t = true then y else v.w) = x := ⟨_, rfl⟩
  have HPW := Lib.hid (show isW (ow : Int) = true by rw [← how]; split; exact hy; exact hww)
  have HOW := Lib.hid how
  obtain ⟨tb, htb⟩ : ∃ x, UInt8.ofNat (4 * v.t + bCode ow) = x := ⟨_, rfl⟩
  have HTB := Lib.hid (show bTag y v = tb by unfold bTag; rw [how]; exact htb)
  have HPK := Lib.hid (fun W => by have h := pack_spec v.t ow W hlg HPW.out; rw [htb] at h; exact h)
  have HLL := Lib.hid hl
  obtain ⟨iv, hiv⟩ : ∃ x, inlineT (v.t : Int) = x := ⟨_, rfl⟩
  have HIV := Lib.hid hiv
  rw [HTB.out]
  clear hy hlg hww hl how htb hiv
  have hB0 := below_two w (.cells #[.pointer (some ⟨b, 0, none⟩), .int .i64 (y : Int)] 304) (.cells #[.int .i64 (v.t : Int), .int .i64 (v.w : Int), .int .u64 (v.n : Int)] 185)
  have HB0 := Lib.hid hB0
  have HS0 := Lib.hid (show MwS b w.heap.size (w.heap.size + 1) (y : Int) v l ((w.alloc (.cells #[.pointer (some ⟨b, 0, none⟩), .int .i64 (y : Int)] 304)).alloc (.cells #[.int .i64 (v.t : Int), .int .i64 (v.w : Int), .int .u64 (v.n : Int)] 185)) o from ⟨h.pure hB0, (Blk.new w 304 #[.pointer (some ⟨b, 0, none⟩), .int .i64 (y : Int)]).alloc _, blk_new2 w _ _ _⟩)
  clear hB0 h
  go_enter Tryz.func252, Tryz.ntmps252
  go_wp2_with fail
  generalize (w.alloc (.cells #[.pointer (some ⟨b, 0, none⟩), .int .i64 (y : Int)] 304)).alloc (.cells #[.int .i64 (v.t : Int), .int .i64 (v.w : Int), .int .u64 (v.n : Int)] 185) = w1 at HB0 HS0 ⊢
  generalize w.heap.size + 1 = g2 at HS0 ⊢
  generalize hg1 : w.heap.size = g1 at HS0 ⊢
  clear hg1
  obtain ⟨x0, x1, x2, x3, x4⟩ := HS0.out.cells
  go_at_call 17
  refine (inline_spec (v.t : Int) _).mono ?_
  rw [HIV.out]
  rintro e w2 ⟨rfl, hb⟩
  have HB1 := Lib.hid (pure_below HB0.out hb)
  have HS1 := Lib.hid (HS0.out.pure hb)
  clear hb x0 x1 x2 x3 x4 HS0 HB0
  obtain ⟨x0, x1, x2, x3, x4⟩ := HS1.out.cells
  cases iv with
  | true =>
    obtain rfl : y = ow := by rw [← HOW.out]; exact (if_pos HIV.out).symm
    go_wp2_with fail
    go_at_call 132
    refine (HPK.out _).mono ?_
    rintro e w3 ⟨rfl, hb⟩
    have HB2 := Lib.hid (pure_below HB1.out hb)
    have HS2 := Lib.hid (HS1.out.pure hb)
    clear hb x0 x1 x2 x3 x4
    obtain ⟨x0, x1, x2, x3, x4⟩ := HS2.out.cells
    have hcv := run_str (c := 1) (one_byte w3 tb)
    have hB9 : Below w3.heap.size w3 ((w3.alloc (.cells #[.int .u8 (tb.toNat : Int)] 5)).alloc (.cells #[.string ⟨[tb].toArray⟩] 9)) := below_two _ _ _
    have HB9 := Lib.hid (HS2.out.m.fresh hB9 0)
    have HBB := Lib.hid hB9
    have hS9 := one_str (w3.alloc (.cells #[.int .u8 (tb.toNat : Int)] 5)) [tb]
    have eS : (w3.alloc (.cells #[.int .u8 (tb.toNat : Int)] 5)).heap.size = w3.heap.size + 1 := by simp
    rw [eS] at hS9
    have HS9 := Lib.hid hS9
    have HO9 := Lib.hid (show ∀ ad, (some ⟨w3.heap.size + 1, 0, none⟩ : Option Addr) = some ad → newO o w3.heap.size 0 ad.block ≠ 1 from fun ad h => by injection h with h; subst h; rw [newO_new (by show w3.heap.size ≤ w3.heap.size + 1; omega)]; omega)
    clear hB9 hS9 eS
    go_wp2_with fail
    go_at_call 134
    refine (btext_spec b 1 _ _ [[tb]] l _ _ HB9.out HS9.out HO9.out HLL.out (by omega)).mono ?_
    rintro e w4 hR
    have HR := Lib.hid (BufTo.from_pure HB2.out (BufTo.from_fresh HBB.out hR))
    obtain rfl := hR.1
    clear hR hcv x0 x1 x2 x3 x4
    go_wp2_with fail
    go_end0
    exact HR.out
  | false =>
    obtain rfl : ow = v.w := by rw [← HOW.out]; exact if_neg (by rw [show inl v.t = false from HIV.out]; decide)
    go_wp2_with fail
    go_at_call 132
    refine (HPK.out _).mono ?_
    rintro e w3 ⟨rfl, hb⟩
    have HB2 := Lib.hid (pure_below HB1.out hb)
    have HS2 := Lib.hid (HS1.out.pure hb)
    clear hb x0 x1 x2 x3 x4
    obtain ⟨x0, x1, x2, x3, x4⟩ := HS2.out.cells
    have hcv := run_str (c := 1) (one_byte w3 tb)
    have hB9 : Below w3.heap.size w3 ((w3.alloc (.cells #[.int .u8 (tb.toNat : Int)] 5)).alloc (.cells #[.string ⟨[tb].toArray⟩] 9)) := below_two _ _ _
    have HB9 := Lib.hid (HS2.out.m.fresh hB9 0)
    have HBB := Lib.hid hB9
    have hS9 := one_str (w3.alloc (.cells #[.int .u8 (tb.toNat : Int)] 5)) [tb]
    have eS : (w3.alloc (.cells #[.int .u8 (tb.toNat : Int)] 5)).heap.size = w3.heap.size + 1 := by simp
    rw [eS] at hS9
    have HS9 := Lib.hid hS9
    have HO9 := Lib.hid (show ∀ ad, (some ⟨w3.heap.size + 1, 0, none⟩ : Option Addr) = some ad → newO o w3.heap.size 0 ad.block ≠ 1 from fun ad h => by injection h with h; subst h; rw [newO_new (by show w3.heap.size ≤ w3.heap.size + 1; omega)]; omega)
    clear hB9 hS9 eS
    go_wp2_with fail
    go_at_call 134
    refine (btext_spec b 1 _ _ [[tb]] l _ _ HB9.out HS9.out HO9.out HLL.out (by omega)).mono ?_
    rintro e w4 hR
    have HR := Lib.hid (BufTo.from_pure HB2.out (BufTo.from_fresh HBB.out hR))
    obtain rfl := hR.1
    clear hR hcv x0 x1 x2 x3 x4
    go_wp2_with fail
    go_end0
    exact HR.out
end Go.Proofs.YtfoifdoaleaekaaGreat
