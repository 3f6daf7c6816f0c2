/-
  Package build: Finish.
  Package build: New.
  Package encode: the calls for a number, a boolean, a null.
-/
import Derived.Test.YtfoifdoaleaekaaGreatQe12
namespace Go.Proofs.YtfoifdoaleaekaaGreat
open Go.RowKit Go.Acc
theorem fail_any {M : Bp} {fl : Int} (x : Int) {w : World} {o : Nat → Nat} {b : Bd} (h : BM M fl w o b) : Calls Tryz.prog 127 #[.pointer (some ⟨M.β, 0, none⟩), .int .i64 x] w fun e w' => e = .returned (.tuple #[]) ∧ To (fun i => i = 2) w o w' o := by
  have HO := Lib.hid h.head.own
  obtain ⟨c0, c1, c2, c9, f2⟩ := h.head.cells
  clear h
  go_enter Tryz.func127, Tryz.ntmps127
  go_wp2
  go_end0
  refine ⟨rfl, To.of_fr0 (Fr.setCell (S := fun k => k = M.β) (Fr.refl _ w) (fun _ => rfl) _) ?_⟩
  rintro k _ rfl
  exact HO.out
structure FinOk (l : List UInt8) (v : Bv) (y : Nat) : Prop where
  legal : legalT v.t = true
  own : isW (v.w : Int) = true
  ly : leastW (fitsV v l.length 0) = y
  w : isW (y : Int) = true
  fit : fitsU y (elemN y (alignB y l).length v) = true
  lt : ((elemN y (alignB y l).length v : Nat) : Int) < 18446744073709551616
  le : inl v.t = false → v.n ≤ (alignB y l).length
  len : l.length + 20 ≤ 1048576
def FinW (w : World) (o : Nat → Nat) (m : List UInt8) (e : Ending) (w' : World) : Prop :=
  ∃ A n c, e = .returned (.tuple #[.slice A n c, .int .i64 0]) ∧ OwnB w' w.heap.size A n c m ∧ ∃ o', To Bld w o w' o'
theorem one_is (v : Bv) (a y : Nat) (w : World) (ha2 : a ≤ 1048576) (hy : leastW (fitsV v a 0) = y) :
    Calls Tryz.prog 128 #[.agg #[.int .i64 (v.t : Int), .int .i64 (v.w : Int), .int .u64 (v.n : Int)], .int .i64 (a : Int), .int .i64 0] w fun e w' => e = .returned (.int .i64 (y : Int)) ∧ Below w.heap.size w w' := by
  subst hy
  exact one_spec v a 0 w ha2 (by omega)
theorem two_bytes (W : World) (t : UInt8) (y : Nat) (hy : y ≤ 8) : IsB (W.alloc (.cells #[.int .u8 (t.toNat : Int), .int .u8 (y : Int)] 5)) (some ⟨W.heap.size, 0, none⟩) 2 [t, UInt8.ofNat y] := by
  refine ⟨rfl, fun j u hu => ⟨_, _, rfl, ?_⟩⟩
  rw [Nat.zero_add, (Blk.new W _ _).cell j]
  have e : ((UInt8.ofNat y).toNat : Int) = y := by rw [UInt8.toNat_ofNat']; omega
  have hu2 : [Value.int .u8 (t.toNat : Int), .int .u8 ((UInt8.ofNat y).toNat : Int)][j]? = some u := hu
  rw [e] at hu2
  simpa using hu2
theorem one_str (W : World) (s : List UInt8) : IsS (W.alloc (.cells #[.string ⟨s.toArray⟩] 9)) (some ⟨W.heap.size, 0, none⟩) 1 [s] := by
  refine ⟨rfl, fun j u hu => ⟨_, _, rfl, ?_⟩⟩
  rw [Nat.zero_add, (Blk.new W _ _).cell j]
  simpa [stc] using hu
structure FinS (M : Bp) (fl : Int) (b : Bd) (v : Bv) (vb : Nat) (w : World) (o : Nat → Nat) : Prop where
  m : BM M fl w o b
  x : Blk w vb 185 #[.int .i64 (v.t : Int), .int .i64 (v.w : Int), .int .u64 (v.n : Int)]
  ox : o vb = 0
theorem FinS.pure {M : Bp} {fl : Int} {b : Bd} {v : Bv} {vb : Nat} {w w' : World} {o : Nat → Nat} (h : FinS M fl b v vb w o) (hb : Below w.heap.size w w') : FinS M fl b v vb w' o := ⟨h.m.pure hb, h.x.pure hb, h.ox⟩
theorem FinS.fresh {M : Bp} {fl : Int} {b : Bd} {v : Bv} {vb : Nat} {w w' : World} {o : Nat → Nat} (h : FinS M fl b v vb w o) (hb : Below w.heap.size w w') : FinS M fl b v vb w' (newO o w.heap.size 0) := ⟨h.m.fresh hb 0, h.x.pure hb, by rw [newO_old h.x.lt]; exact h.ox⟩
theorem FinS.drew {M : Bp} {fl : Int} {b : Bd} {v : Bv} {vb : Nat} {w : World} {o : Nat → Nat} (h : FinS M fl b v vb w o) : FinS M fl b v vb w.drew o := h.pure (Below.refl _ _).drew
theorem FinS.buf_ {M : Bp} {fl : Int} {b : Bd} {v : Bv} {vb : Nat} {w w' : World} {o o' : Nat → Nat} {l : List UInt8} (h : FinS M fl b v vb w o) (ht : To (fun i => i = 1) w o w' o') (hb : Buf w' o' M.bb l) : FinS M fl { b with b := l } v vb w' o' :=
  ⟨h.m.buf_ ht hb, h.x.to_ ht (by rw [h.ox]; omega), by rw [ht.ow _ h.x.lt]; exact h.ox⟩
theorem FinS.cells {M : Bp} {fl : Int} {b : Bd} {v : Bv} {vb : Nat} {w : World} {o : Nat → Nat} (h : FinS M fl b v vb w o) :
    w.cell? ⟨vb, 0, none⟩ = some (.int .i64 (v.t : Int)) ∧ w.cell? ⟨vb, 1, none⟩ = some (.int .i64 (v.w : Int)) ∧ w.cell? ⟨vb, 2, none⟩ = some (.int .u64 (v.n : Int)) ∧ w.cell? ⟨M.β, 0, none⟩ = some (.pointer (some ⟨M.bb, 0, none⟩)) :=
  ⟨h.x.cell 0, h.x.cell 1, h.x.cell 2, h.m.head.cells.1⟩
set_option maxRecDepth 100000 in
set_option maxHeartbeats 4000000 in
theorem finish_spec (M : Bp) (fl : Int) (b : Bd) (v : Bv) (y : Nat) (w : World) (o : Nat → Nat) (h : BM M fl w o b) (hs : b.s = [v]) (hf : FinOk b.b v y) :
    Calls Tryz.prog 75 #[.pointer (some ⟨M.β, 0, none⟩)] w (FinW w o (alignB y b.b ++ leBytes y (elemN y (alignB y b.b).length v) ++ [bTag y v, UInt8.ofNat y])) := by
  have HM := Lib.hid h
  have HF := Lib.hid hf
  have HS := Lib.hid hs
  obtain ⟨b0, b1, b2, b9, f2⟩ := h.head.cells
  have HK := Lib.hid (show (0 : Nat) ≤ b.s.length from Nat.zero_le _)
  obtain ⟨a, ha⟩ : ∃ a, b.b.length = a := ⟨_, rfl⟩
  have HA := Lib.hid ha
  have HA2 := Lib.hid (show a ≤ 1048576 by have := hf.len; omega)
  have HLY := Lib.hid (show leastW (fitsV v a 0) = y by rw [← ha]; exact hf.ly)
  have HL7 := Lib.hid (show b.b.length + 7 ≤ 1048576 by have := hf.len; omega)
  clear h hs hf f2 ha
  go_enter Tryz.func75, Tryz.ntmps75
  go_wp2_with (go_at_call 125; refine (cnone_spec M.β _ (by assumption)).mono ?_; rintro e w' ⟨rfl, rfl⟩)
  refine (sfrom_is M.sb 0 b.s _ o HM.out.stk HK.out).mono ?_
  rw [List.drop_zero, HS.out]
  rintro e W1 ⟨A, n, c, rfl, hO, hB⟩
  have hn : n = 1 := by rw [← hO.1]; rfl
  have HI1 := Lib.hid (show IsV W1 A 1 [vv v] by have h := hO.is; rw [hn] at h; exact h)
  have HM1 := Lib.hid (HM.out.pure hB)
  obtain ⟨d0, d1, d2, d9, f2⟩ := HM1.out.head.cells
  have HB1 := Lib.hid hB
  subst hn
  obtain ⟨g, off, rfl, hk, h0, h1, h2⟩ := isv_at HI1.out (Nat.zero_lt_one)
  simp only [Nat.zero_mul, Nat.add_zero] at h0 h1 h2
  have v0 : W1.cell? ⟨g, off, none⟩ = some (.int .i64 (v.t : Int)) := h0
  have v1 : W1.cell? ⟨g, off + 1, none⟩ = some (.int .i64 (v.w : Int)) := h1
  have v2 : W1.cell? ⟨g, off + 2, none⟩ = some (.int .u64 (v.n : Int)) := h2
  clear hO hB b0 b1 b2 b9 f2 d9 h0 h1 h2 hk
  have hB2 : Below W1.heap.size W1 (W1.alloc (.cells #[.int .i64 (v.t : Int), .int .i64 (v.w : Int), .int .u64 (v.n : Int)] 185)) := (Below.refl _ _).alloc (Nat.le_refl _) _
  have HZ2 := Lib.hid (show FinS M fl b v W1.heap.size (W1.alloc (.cells #[.int .i64 (v.t : Int), .int .i64 (v.w : Int), .int .u64 (v.n : Int)] 185)) (newO o W1.heap.size 0) from ⟨HM1.out.fresh hB2 0, Blk.new _ _ _, newO_new (Nat.le_refl _)⟩)
  have HT2 := Lib.hid (show To Bld w o (W1.alloc (.cells #[.int .i64 (v.t : Int), .int .i64 (v.w : Int), .int .u64 (v.n : Int)] 185)) (newO o W1.heap.size 0) from To.from_pure HB1.out (To.fresh _ hB2 o 0))
  clear hB2
  go_upto_region 9 with fail
  generalize W1.alloc (.cells #[.int .i64 (v.t : Int), .int .i64 (v.w : Int), .int .u64 (v.n : Int)] 185) = W2 at HZ2 HT2 ⊢
  generalize newO o W1.heap.size 0 = o2 at HZ2 HT2
  have HSZ := Lib.hid HB1.out.size
  generalize W1.heap.size = vb at HZ2 ⊢
  clear HI1 HM1 d0 d1 d2 v0 v1 v2
  obtain ⟨x0, x1, x2, x3⟩ := HZ2.out.cells
  go_region_held3 (fun w' => w'.cell? ⟨vb, 0, none⟩ = some (.int .i64 (v.t : Int)) ∧ w'.cell? ⟨vb, 1, none⟩ = some (.int .i64 (v.w : Int)) ∧ w'.cell? ⟨vb, 2, none⟩ = some (.int .u64 (v.n : Int)) ∧ w'.cell? ⟨M.β, 0, none⟩ = some (.pointer (some ⟨M.bb, 0, none⟩))) (first | with_reducible exact ⟨x0, x1, x2, x3⟩ | with_reducible exact ⟨kdrew x0, kdrew x1, kdrew x2, kdrew x3⟩ | with_reducible exact ⟨kdrewN _ x0, kdrewN _ x1, kdrewN _ x2, kdrewN _ x3⟩ | with_reducible exact ⟨y0, y1, y2, y3⟩) (first | (go_at_call 129; (with_reducible refine (blen_is a HZ2.out.drew.m.buf HA.out).mono ?_); rintro e w' ⟨rfl, rfl⟩) | (go_at_call 128; (with_reducible refine (one_is v a y _ HA2.out HLY.out).mono ?_); rintro e W3 ⟨rfl, hb⟩; have HZ3 := Lib.hid (HZ2.out.drew.pure hb); obtain ⟨y0, y1, y2, y3⟩ := HZ3.out.cells; have HT3 := Lib.hid (HT2.out.trans (To.pure Bld hb o2).from_drew); clear hb))
  clear x0 x1 x2 x3 HZ2
  go_wp2_with fail
  go_at_call 130
  refine (balign_spec M.bb y b.b _ o2 HZ3.out.m.buf HF.out.w HL7.out).mono ?_
  rintro e W4 ⟨rfl, o4, hB4, hT4⟩
  have HZ4 := Lib.hid (HZ3.out.buf_ hT4 hB4)
  have HT4 := Lib.hid (HT3.out.trans (hT4.mono fun _ h => bld_1 h))
  obtain ⟨x0, x1, x2, x3⟩ := HZ4.out.cells
  clear hB4 hT4 y0 y1 y2 y3
  go_wp2_with fail
  go_at_call 17
  refine (inline_spec (v.t : Int) _).mono ?_
  obtain ⟨iv, hiv⟩ : ∃ x, inlineT (v.t : Int) = x := ⟨_, rfl⟩
  have HIV := Lib.hid hiv
  rw [hiv]
  clear hiv
  rintro e W5 ⟨rfl, hb⟩
  have HZ5 := Lib.hid (HZ4.out.pure hb)
  have HT5 := Lib.hid (HT4.out.trans (To.pure Bld hb o4))
  clear hb x0 x1 x2 x3
  obtain ⟨x0, x1, x2, x3⟩ := HZ5.out.cells
  obtain ⟨m, hm⟩ : ∃ m, (alignB y b.b).length = m := ⟨_, rfl⟩
  have HMM := Lib.hid hm
  obtain ⟨q, hq⟩ : ∃ q, elemN y m v = q := ⟨_, rfl⟩
  have HQ := Lib.hid hq
  have HFQ := Lib.hid (show fitsU y q = true by rw [← hq, ← hm]; exact HF.out.fit)
  have HLQ := Lib.hid (show (q : Int) < 18446744073709551616 by rw [← hq, ← hm]; exact HF.out.lt)
  clear hm hq
  obtain ⟨ow, how⟩ : ∃ x, (if inl v.t = true then y else v.w) = x := ⟨_, rfl⟩
  have HOW := Lib.hid how
  clear how
  go_upto_if 65 with fail
  go_cut [8, 9] (fun u8 u9 wx => ∃ wy, wy = wx ∧ u8 = .int .i64 (ow : Int) ∧ u9 = .int .u64 (q : Int) ∧ Below W5.heap.size W5 wx)
  case first =>
    cases iv with
    | true =>
      have hin : inl v.t = true := HIV.out
      have HQ2 := Lib.hid (show v.n % 2 ^ (8 * y) = q by rw [← HQ.out]; unfold elemN; rw [if_pos hin])
      have HO2 := Lib.hid (show ow = y by rw [← HOW.out, if_pos hin])
      clear hin
      go_wp2_with (go_at_call 131; (refine (low_is v.n y q _ HF.out.w HQ2.out).mono ?_); rintro e w' ⟨rfl, rfl⟩)
      go_meet
      exact ⟨_, rfl, by rw [HO2.out], rfl, Below.refl _ _⟩
    | false =>
      have hin : inl v.t = false := HIV.out
      have hne : ¬ inl v.t = true := by rw [hin]; decide
      have hle : v.n ≤ m := by rw [← HMM.out]; exact HF.out.le hin
      have hmb : m ≤ 1048576 := by
        have h1 := alignB_len b.b (show y ≤ 8 by have h2 := w_cases HF.out.w; omega)
        have h2 := HL7.out
        have h3 := HMM.out
        omega
      have hq2 : m - v.n = q := by rw [← HQ.out]; unfold elemN; rw [if_neg hne]
      have HO2 := Lib.hid (show ow = v.w by rw [← HOW.out, if_neg hne])
      have e1 : IntKind.u64.wrap (m : Int) = m := u64_in _ (by omega)
      have e2 : (m : Int) - (v.n : Int) = q := by omega
      have e3 : IntKind.u64.wrap (q : Int) = q := u64_in _ (by omega)
      clear hin hne hq2
      go_wp2_with fail
      go_region_held3 (fun w' => w'.cell? ⟨vb, 0, none⟩ = some (.int .i64 (v.t : Int)) ∧ w'.cell? ⟨vb, 1, none⟩ = some (.int .i64 (v.w : Int)) ∧ w'.cell? ⟨vb, 2, none⟩ = some (.int .u64 (v.n : Int)) ∧ w'.cell? ⟨M.β, 0, none⟩ = some (.pointer (some ⟨M.bb, 0, none⟩))) (first | with_reducible exact ⟨x0, x1, x2, x3⟩ | with_reducible exact ⟨kdrew x0, kdrew x1, kdrew x2, kdrew x3⟩ | with_reducible exact ⟨kdrewN _ x0, kdrewN _ x1, kdrewN _ x2, kdrewN _ x3⟩ | with_reducible exact ⟨y0, y1, y2, y3⟩) (first | (go_at_call 129; (with_reducible refine (blen_is m HZ5.out.drew.m.buf HMM.out).mono ?_); rintro e w' ⟨rfl, rfl⟩))
      go_wp2_with fail
      go_meet
      exact ⟨_, rfl, by rw [HO2.out], rfl, (Below.refl _ _).drew⟩
  case rest =>
  obtain ⟨w6, rfl, rfl, rfl, hb⟩ := hcut
  have HZ6 := Lib.hid (HZ5.out.pure hb)
  have HT6 := Lib.hid (HT5.out.trans (To.pure Bld hb o4))
  clear hb x0 x1 x2 x3
  obtain ⟨x0, x1, x2, x3⟩ := HZ6.out.cells
  have HPW := Lib.hid (show isW (ow : Int) = true by rw [← HOW.out]; split; exact HF.out.w; exact HF.out.own)
  obtain ⟨tb, htb⟩ : ∃ x, UInt8.ofNat (4 * v.t + bCode ow) = x := ⟨_, rfl⟩
  have HTB := Lib.hid htb
  have hpk := pack_spec v.t ow w6 HF.out.legal HPW.out
  rw [htb] at hpk
  have HPK := Lib.hid hpk
  clear htb hpk
  go_wp2_with fail
  go_at_call 132
  refine HPK.out.mono ?_
  rintro e W7 ⟨rfl, hb⟩
  have HZ7 := Lib.hid (HZ6.out.pure hb)
  have HT7 := Lib.hid (HT6.out.trans (To.pure Bld hb o4))
  clear hb x0 x1 x2 x3
  obtain ⟨x0, x1, x2, x3⟩ := HZ7.out.cells
  have HLN := Lib.hid (show (alignB y b.b).length + y ≤ 1048576 by
    have h2 := w_cases HF.out.w
    have h1 := alignB_len b.b (show y ≤ 8 by omega)
    have h3 := HF.out.len
    omega)
  go_wp2_with fail
  go_at_call 133
  refine (bnum_spec M.bb y q (alignB y b.b) _ o4 HZ7.out.m.buf HF.out.w HFQ.out HLQ.out HLN.out).mono ?_
  rintro e W8 ⟨rfl, o8, hB8, hT8⟩
  have HZ8 := Lib.hid (HZ7.out.buf_ hT8 hB8)
  have HT8 := Lib.hid (HT7.out.trans (hT8.mono fun _ h => bld_1 h))
  clear hB8 hT8 x0 x1 x2 x3
  obtain ⟨x0, x1, x2, x3⟩ := HZ8.out.cells
  go_upto_region 17 with fail
  have hy8 : y ≤ 8 := by have h2 := w_cases HF.out.w; omega
  have e8 : IntKind.u8.wrap (y : Int) = y := by show (y : Int) % 256 = y; omega
  have hI2 := two_bytes W8 tb y hy8
  have hcv1 := run_str (c := 2) hI2
  have hcv2 := run_str (c := 2) (w := (W8.alloc (.cells #[.int .u8 (tb.toNat : Int), .int .u8 (y : Int)] 5)).drew) hI2
  have hB9 : Below W8.heap.size W8 (((W8.alloc (.cells #[.int .u8 (tb.toNat : Int), .int .u8 (y : Int)] 5)).alloc (.cells #[.string ⟨[tb, UInt8.ofNat y].toArray⟩] 9))).drew := (below_two _ _ _).drew
  have HZ9 := Lib.hid (HZ8.out.fresh hB9)
  have HT9 := Lib.hid (HT8.out.trans (To.fresh Bld hB9 o8 0))
  have hS9 := one_str (W8.alloc (.cells #[.int .u8 (tb.toNat : Int), .int .u8 (y : Int)] 5)) [tb, UInt8.ofNat y]
  have eS : (W8.alloc (.cells #[.int .u8 (tb.toNat : Int), .int .u8 (y : Int)] 5)).heap.size = W8.heap.size + 1 := by simp
  rw [eS] at hS9
  have HS9 := Lib.hid (show IsS (((W8.alloc (.cells #[.int .u8 (tb.toNat : Int), .int .u8 (y : Int)] 5)).alloc (.cells #[.string ⟨[tb, UInt8.ofNat y].toArray⟩] 9))).drew (some ⟨W8.heap.size + 1, 0, none⟩) 1 [[tb, UInt8.ofNat y]] from hS9)
  have HO9 := Lib.hid (show ∀ ad, (some ⟨W8.heap.size + 1, 0, none⟩ : Option Addr) = some ad → newO o8 W8.heap.size 0 ad.block ≠ 1 from fun ad h => by injection h with h; subst h; rw [newO_new (by show W8.heap.size ≤ W8.heap.size + 1; omega)]; omega)
  have HL9 := Lib.hid (show (alignB y b.b ++ leBytes y q).length + [[tb, UInt8.ofNat y]].flatten.length ≤ 1048576 by
    have h1 := alignB_len b.b hy8
    have h3 := HF.out.len
    rw [List.length_append, leBytes_length]
    show _ + 2 ≤ _
    omega)
  have n0 := Nat.ne_of_lt (lt_of_cell x0)
  have n3 := Nat.ne_of_lt (lt_of_cell x3)
  simp only at n0 n3
  clear hI2 hB9 hS9 eS
  have z3 := kalloc (.cells #[.int .u8 (tb.toNat : Int), .int .u8 (y : Int)] 5) x3
  have z4 := kalloc (.cells #[.string ⟨[tb, UInt8.ofNat y].toArray⟩] 9) z3
  go_region_with (first | (go_at_call 134; (with_reducible refine (btext_spec M.bb 1 _ _ [[tb, UInt8.ofNat y]] (alignB y b.b ++ leBytes y q) _ _ HZ9.out.m.buf HS9.out HO9.out HL9.out (by omega)).mono ?_); rintro e W10 ⟨rfl, o10, hB10, hT10⟩; have HZ10 := Lib.hid (HZ9.out.buf_ hT10 hB10); have HT10 := Lib.hid (HT9.out.trans (hT10.mono fun _ h => bld_1 h)); clear hB10 hT10))
  all_goals
    have HZ10 := HZ10
    clear z3 z4 hcv1 hcv2 n0 n3
    obtain ⟨y0, y1, y2, y3⟩ := HZ10.out.cells
    have HLB := Lib.hid (show (alignB y b.b ++ leBytes y q ++ [[tb, UInt8.ofNat y]].flatten).length ≤ 1048576 by have := HL9.out; rw [List.length_append]; omega)
    go_wp2_with fail
    go_at_call 135
    refine (bbytes_spec M.bb _ _ o10 HZ10.out.m.buf HLB.out).mono ?_
    rintro e W11 ⟨A11, n11, c11, rfl, hO11, hB11⟩
    have HZ11 := Lib.hid (HZ10.out.m.fresh hB11 0)
    have HT11 := Lib.hid (HT10.out.trans (To.fresh Bld hB11 o10 0))
    have HO11 := Lib.hid hO11
    have HF11 := Lib.hid (show Of (newO o10 W10.heap.size 0) A11 0 from fun ad h => newO_new (hO11.addr ad h).2.1)
    clear y0 y1 y2 y3 hO11 hB11
    go_wp2_with fail
    go_at_call 127
    refine (fail_ok HZ11.out).mono ?_
    rintro e W12 ⟨rfl, o12, hM12, hT12⟩
    have HZ12 := Lib.hid hM12
    have HT12 := Lib.hid (HT11.out.trans hT12)
    have HO12 := Lib.hid (HO11.out.to_ HF11.out hT12 bld_0)
    have HF12 := Lib.hid (HF11.out.to_ HO11.out hT12)
    clear hM12 hT12
    go_wp2_with fail
    go_at_call 127
    refine (fail_any 140 HZ12.out).mono ?_
    rintro e W13 ⟨rfl, hT13⟩
    have HT13 := Lib.hid (HT12.out.trans (hT13.mono fun _ h => by subst h; exact ⟨by omega, by omega⟩))
    have HO13 := Lib.hid (HO12.out.to_ HF12.out hT13 (by omega))
    clear hT13
    go_wp2_with fail
    go_ret2
    refine ⟨A11, n11, c11, rfl, ?_, o12, HT13.out⟩
    have h := HO13.out.rebase (B' := w.heap.size) HT10.out.size
    have e : bTag y v = tb := by unfold bTag; rw [HOW.out, HTB.out]
    rw [HMM.out, HQ.out, e]
    exact h
end Go.Proofs.YtfoifdoaleaekaaGreat

namespace Go.Proofs.YtfoifdoaleaekaaGreat
open Go.RowKit Go.Acc
theorem pnew_spec (w : World) :
    Calls Tryz.prog 103 #[] w fun e w' => ∃ b, e = .returned (.pointer (some ⟨b, 0, none⟩)) ∧ Blk w' b 216 #[.slice none 0 0, .slice none 0 0, .bool true] ∧ w.heap.size ≤ b ∧ Below w.heap.size w w' := by
  go_enter Tryz.func103, Tryz.ntmps103
  go_wp2
  go_ret
  exact ⟨_, rfl, Blk.new w _ _, Nat.le_refl _, (Below.refl _ _).alloc (Nat.le_refl _) _⟩
theorem snew_is (w : World) :
    Calls Tryz.prog 102 #[] w fun e w' => ∃ b, e = .returned (.pointer (some ⟨b, 0, none⟩)) ∧ Blk w' b 212 #[.slice none 0 0, .bool true] ∧ w.heap.size ≤ b ∧ Below w.heap.size w w' := by
  go_enter Tryz.func102, Tryz.ntmps102
  go_wp2
  go_ret
  exact ⟨_, rfl, Blk.new w _ _, Nat.le_refl _, (Below.refl _ _).alloc (Nat.le_refl _) _⟩
def newOw (o : Nat → Nat) (N bb sb kb tb lb mb β : Nat) : Nat → Nat := fun k => if k < N then o k else if k = bb then 1 else if k = sb then 3 else if k = kb then 4 else if k = tb then 5 else if k = lb then 6 else if k = mb then 7 else if k = β then 2 else 0
theorem pool_new {w : World} {o : Nat → Nat} {i p : Nat} (h : Blk w p 216 #[.slice none 0 0, .slice none 0 0, .bool true]) (ho : o p = i) : PoolO w o i p [] :=
  ⟨none, none, 0, 0, 0, [], [], h, Own.nil _ _, Own.nil _ _, Of.none_ _, Of.none_ _, ho, List.Pairwise.nil, fun _ => rfl, Nat.le_refl _, fun a h => by cases h⟩
set_option maxRecDepth 100000 in
set_option maxHeartbeats 2000000 in
theorem cnew_spec (fl : Int) (w : World) (o : Nat → Nat) :
    Calls Tryz.prog 73 #[.int .i64 fl, .int .i64 1048576] w fun e w' => ∃ M o', e = .returned (.pointer (some ⟨M.β, 0, none⟩)) ∧ BM M fl w' o' Bd.new ∧ To (fun _ => False) w o w' o' := by
  have h0 := run_makeMap (P := Tryz.prog) 159
  go_enter Tryz.func73, Tryz.ntmps73
  go_wp2_with fail
  go_at_call 101
  refine (bnew_spec _).mono ?_
  rintro e w1 ⟨bb, rfl, hb1, hl1, hB⟩
  have HB := Lib.hid hB
  have H1 := Lib.hid hb1
  have L1 := Lib.hid (And.intro hl1 hb1.lt)
  clear hB hb1 hl1
  go_wp2_with fail
  go_at_call 102
  refine (snew_is _).mono ?_
  rintro e w2 ⟨sb, rfl, hb2, hl2, hB⟩
  replace HB := Lib.hid (pure_below HB.out hB)
  have H2 := Lib.hid hb2
  replace H1 := Lib.hid (H1.out.pure hB)
  have L2 := Lib.hid (And.intro hl2 hb2.lt)
  clear hB hb2 hl2
  go_wp2_with fail
  go_at_call 103
  refine (pnew_spec _).mono ?_
  rintro e w3 ⟨kb, rfl, hb3, hl3, hB⟩
  replace HB := Lib.hid (pure_below HB.out hB)
  have H3 := Lib.hid hb3
  replace H1 := Lib.hid (H1.out.pure hB)
  replace H2 := Lib.hid (H2.out.pure hB)
  have L3 := Lib.hid (And.intro hl3 hb3.lt)
  clear hB hb3 hl3
  go_wp2_with fail
  go_at_call 103
  refine (pnew_spec _).mono ?_
  rintro e w4 ⟨tb, rfl, hb4, hl4, hB⟩
  replace HB := Lib.hid (pure_below HB.out hB)
  have H4 := Lib.hid hb4
  replace H1 := Lib.hid (H1.out.pure hB)
  replace H2 := Lib.hid (H2.out.pure hB)
  replace H3 := Lib.hid (H3.out.pure hB)
  have L4 := Lib.hid (And.intro hl4 hb4.lt)
  clear hB hb4 hl4
  go_wp2_with fail
  go_at_call 103
  refine (pnew_spec _).mono ?_
  rintro e w5 ⟨lb, rfl, hb5, hl5, hB⟩
  replace HB := Lib.hid (pure_below HB.out hB)
  have H5 := Lib.hid hb5
  replace H1 := Lib.hid (H1.out.pure hB)
  replace H2 := Lib.hid (H2.out.pure hB)
  replace H3 := Lib.hid (H3.out.pure hB)
  replace H4 := Lib.hid (H4.out.pure hB)
  have L5 := Lib.hid (And.intro hl5 hb5.lt)
  clear hB hb5 hl5
  go_wp2_with fail
  go_ret
  have hB := below_two w5 (.map #[] 0) (.cells #[.pointer (some ⟨bb, 0, none⟩), .pointer (some ⟨sb, 0, none⟩), .int .i64 0, .int .i64 fl, .pointer (some ⟨kb, 0, none⟩), .pointer (some ⟨tb, 0, none⟩), .pointer (some ⟨lb, 0, none⟩), .map (some w5.heap.size), .slice none 0 0, .bool true] 164)
  have h6 := World.ownsMap_made (H := Unit) w5 Tryz.prog 22 (plainElem Tryz.prog 9)
  have h7 := blk_new2 w5 (.map #[] 0) 164 #[.pointer (some ⟨bb, 0, none⟩), .pointer (some ⟨sb, 0, none⟩), .int .i64 0, .int .i64 fl, .pointer (some ⟨kb, 0, none⟩), .pointer (some ⟨tb, 0, none⟩), .pointer (some ⟨lb, 0, none⟩), .map (some w5.heap.size), .slice none 0 0, .bool true]
  have l1 := L1.out
  have l2 := L2.out
  have l3 := L3.out
  have l4 := L4.out
  have l5 := L5.out
  obtain ⟨N, hN⟩ : ∃ N, w5.heap.size = N := ⟨_, rfl⟩
  have e1 : newOw o w.heap.size bb sb kb tb lb N (N + 1) bb = 1 := by unfold newOw; rw [if_neg (by omega), if_pos rfl]
  have e2 : newOw o w.heap.size bb sb kb tb lb N (N + 1) sb = 3 := by unfold newOw; rw [if_neg (by omega), if_neg (by omega), if_pos rfl]
  have e3 : newOw o w.heap.size bb sb kb tb lb N (N + 1) kb = 4 := by unfold newOw; rw [if_neg (by omega), if_neg (by omega), if_neg (by omega), if_pos rfl]
  have e4 : newOw o w.heap.size bb sb kb tb lb N (N + 1) tb = 5 := by unfold newOw; rw [if_neg (by omega), if_neg (by omega), if_neg (by omega), if_neg (by omega), if_pos rfl]
  have e5 : newOw o w.heap.size bb sb kb tb lb N (N + 1) lb = 6 := by unfold newOw; rw [if_neg (by omega), if_neg (by omega), if_neg (by omega), if_neg (by omega), if_neg (by omega), if_pos rfl]
  have e6 : newOw o w.heap.size bb sb kb tb lb N (N + 1) N = 7 := by unfold newOw; rw [if_neg (by omega), if_neg (by omega), if_neg (by omega), if_neg (by omega), if_neg (by omega), if_neg (by omega), if_pos rfl]
  have e7 : newOw o w.heap.size bb sb kb tb lb N (N + 1) (N + 1) = 2 := by unfold newOw; rw [if_neg (by omega), if_neg (by omega), if_neg (by omega), if_neg (by omega), if_neg (by omega), if_neg (by omega), if_neg (by omega), if_pos rfl]
  rw [hN] at hB h6 h7 ⊢
  refine ⟨⟨N + 1, bb, sb, kb, tb, lb, N⟩, newOw o w.heap.size bb sb kb tb lb N (N + 1), rfl, ⟨⟨none, 0, 0, h7, Own.nil _ _, Of.none_ _, e7⟩, ⟨none, 0, 0, (H1.out.alloc _).alloc _, Own.nil _ _, Of.none_ _, e1⟩, ⟨none, ⟨none, 0, 0, (H2.out.alloc _).alloc _, Own.nil _ _, rfl, by omega, Nat.zero_le _⟩, e2, fun k h => by cases h⟩,
    pool_new ((H3.out.alloc _).alloc _) e3, pool_new ((H4.out.alloc _).alloc _) e4, pool_new ((H5.out.alloc _).alloc _) e5, e6, 0, .map [], h6.alloc _, Nat.le_refl _, fun a s h => by cases h⟩, ⟨Fr.of_below (pure_below HB.out (by rw [hN]; exact hB)) _, fun k hk => if_pos hk⟩⟩
end Go.Proofs.YtfoifdoaleaekaaGreat

namespace Go.Proofs.YtfoifdoaleaekaaGreat
open Go.RowKit Go.Acc
theorem yes_spec (k n : Int) (u : Nat) (s : List UInt8) (A : Option Addr) (an ac : Nat) (B : Option Addr) (bn bc : Nat) (w : World) :
    Calls Tryz.prog 112 #[.agg #[.int .i64 k, .int .i64 n, .int .u64 (u : Int), .string ⟨s.toArray⟩, .slice A an ac, .slice B bn bc]] w fun e w' => e = .returned (.bool (decide (n = 1))) ∧ Below w.heap.size w w' := by
  go_enter Tryz.func112, Tryz.ntmps112
  go_wp2_with fail
  go_ret
  exact ⟨rfl, (Below.refl _ _).alloc (Nat.le_refl _) _⟩
set_option maxRecDepth 100000 in
set_option maxHeartbeats 2000000 in
theorem leafn_spec (M : Bp) (fl : Int) (f : Nat) (b : Bd) (k n : Int) (u : Nat) (s : List UInt8) (A : Option Addr) (an ac : Nat) (B : Option Addr) (bn bc : Nat) (w : World) (o : Nat → Nat) (h : BM M fl w o b) (hs : b.s.length < 65536) (hm : b.b.length + 15 ≤ 1048576)
    (hn : -9223372036854775808 ≤ n ∧ n ≤ 9223372036854775807) (hu : u < 18446744073709551616) (hk : k = 1 ∨ k = 2 ∨ k = 3 ∨ k = 4 ∨ k = 8 ∨ k = 9) :
    Calls Tryz.prog 124 #[.pointer (some ⟨M.β, 0, none⟩), .agg #[.int .i64 k, .int .i64 n, .int .u64 (u : Int), .string ⟨s.toArray⟩, .slice A an ac, .slice B bn bc]] w (BTo M fl (b.leaf f k n u s) w o) := by
  have HB := Lib.hid (show Below w.heap.size w (w.alloc (.cells #[.int .i64 k, .int .i64 n, .int .u64 (u : Int), .string ⟨s.toArray⟩, .slice A an ac, .slice B bn bc] 26)) from (Below.refl _ _).alloc (Nat.le_refl _) _)
  have HM := Lib.hid (h.pure HB.out)
  have HS := Lib.hid hs
  have HL := Lib.hid hm
  have HN := Lib.hid hn
  have HU := Lib.hid hu
  clear h hs hm hn hu
  rcases hk with rfl | rfl | rfl | rfl | rfl | rfl
  · go_enter Tryz.func124, Tryz.ntmps124
    go_wp2_with fail
    go_at_call 180
    refine (cnull_spec M fl b _ o HM.out HS.out).mono ?_
    rintro e w2 hR
    obtain rfl := hR.1
    have HR := Lib.hid (hR.from_pure HB.out)
    clear hR
    go_wp2_with fail
    go_end0
    have h := HR.out
    unfold Bd.leaf
    simpa using h
  · go_enter Tryz.func124, Tryz.ntmps124
    go_wp2_with fail
    go_at_call 112
    refine (yes_spec 2 n u s A an ac B bn bc _).mono ?_
    rintro e w1 ⟨rfl, hb⟩
    have HM1 := Lib.hid (HM.out.pure hb)
    have HB1 := Lib.hid (pure_below HB.out hb)
    clear hb
    generalize htt : decide (n = 1) = tt at *
    have HT := Lib.hid htt
    clear htt
    go_wp2_with fail
    go_at_call 181
    refine (cbool_spec M fl b n tt _ o HM1.out HS.out HT.out).mono ?_
    rintro e w2 hR
    obtain rfl := hR.1
    have HR := Lib.hid (hR.from_pure HB1.out)
    clear hR
    go_wp2_with fail
    go_end0
    have h := HR.out
    unfold Bd.leaf
    simpa using h
  · go_enter Tryz.func124, Tryz.ntmps124
    go_wp2_with fail
    go_at_call 182
    refine (cint_spec M fl b n _ o HM.out HS.out HN.out).mono ?_
    rintro e w2 hR
    obtain rfl := hR.1
    have HR := Lib.hid (hR.from_pure HB.out)
    clear hR
    go_wp2_with fail
    go_end0
    have h := HR.out
    unfold Bd.leaf
    simpa using h
  · go_enter Tryz.func124, Tryz.ntmps124
    go_wp2_with fail
    go_at_call 183
    refine (cuint_spec M fl b u _ o HM.out HS.out HU.out).mono ?_
    rintro e w2 hR
    obtain rfl := hR.1
    have HR := Lib.hid (hR.from_pure HB.out)
    clear hR
    go_wp2_with fail
    go_end0
    have h := HR.out
    unfold Bd.leaf
    simpa using h
  · go_enter Tryz.func124, Tryz.ntmps124
    go_wp2_with fail
    go_at_call 184
    refine (ciint_spec M fl b n _ o HM.out HS.out HL.out HN.out).mono ?_
    rintro e w2 hR
    obtain rfl := hR.1
    have HR := Lib.hid (hR.from_pure HB.out)
    clear hR
    go_wp2_with fail
    go_end0
    have h := HR.out
    unfold Bd.leaf
    simpa using h
  · go_enter Tryz.func124, Tryz.ntmps124
    go_wp2_with fail
    go_at_call 185
    refine (ciuint_spec M fl b u _ o HM.out HS.out HL.out HU.out).mono ?_
    rintro e w2 hR
    obtain rfl := hR.1
    have HR := Lib.hid (hR.from_pure HB.out)
    clear hR
    go_wp2_with fail
    go_end0
    have h := HR.out
    unfold Bd.leaf
    simpa using h
set_option maxRecDepth 100000 in
set_option maxHeartbeats 2000000 in
theorem callsleaf_spec (M : Bp) (fl : Int) (b' : Bd) (k n : Int) (u : Nat) (s : List UInt8) (A : Option Addr) (an ac : Nat) (B : Option Addr) (bn bc : Nat) (w : World) (o : Nat → Nat) (hk : 1 ≤ k ∧ k ≤ 9)
    (hL : ∀ W, Below w.heap.size w W → Calls Tryz.prog 124 #[.pointer (some ⟨M.β, 0, none⟩), .agg #[.int .i64 k, .int .i64 n, .int .u64 (u : Int), .string ⟨s.toArray⟩, .slice A an ac, .slice B bn bc]] W (BTo M fl b' W o)) :
    Calls Tryz.prog 74 #[.pointer (some ⟨M.β, 0, none⟩), .agg #[.int .i64 k, .int .i64 n, .int .u64 (u : Int), .string ⟨s.toArray⟩, .slice A an ac, .slice B bn bc]] w (BTo M fl b' w o) := by
  have hB := below_two w (.cells #[.pointer (some ⟨M.β, 0, none⟩)] 122) (.cells #[.int .i64 k, .int .i64 n, .int .u64 (u : Int), .string ⟨s.toArray⟩, .slice A an ac, .slice B bn bc] 26)
  have HB := Lib.hid hB
  have HL := Lib.hid (hL _ hB)
  have e10 : (k == 10) = false := by simp; omega
  have e11 : (k == 11) = false := by simp; omega
  have e12 : (k == 12) = false := by simp; omega
  have e13 : (k == 13) = false := by simp; omega
  have e14 : (k == 14) = false := by simp; omega
  have e15 : (k == 15) = false := by simp; omega
  have e16 : (k == 16) = false := by simp; omega
  have e17 : (k == 17) = false := by simp; omega
  clear hB hL hk
  go_enter Tryz.func74, Tryz.ntmps74
  go_wp2_with fail
  go_at_call 124
  refine HL.out.mono ?_
  rintro e w2 hR
  obtain rfl := hR.1
  have HR := Lib.hid (hR.from_pure HB.out)
  clear hR e10 e11 e12 e13 e14 e15 e16 e17
  go_wp2_with fail
  go_end0
  exact HR.out
end Go.Proofs.YtfoifdoaleaekaaGreat
