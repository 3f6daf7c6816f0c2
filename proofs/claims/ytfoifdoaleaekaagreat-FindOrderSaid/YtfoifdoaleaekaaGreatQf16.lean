/-
  Package build: Finish.
  Package text: the first byte 00, the library's IndexByte and Equal, the types as bytes.
  Package text: the types as bytes.
  Package text: a key, a counted text.
  The head of an argument, b[:min(len(b), N)], under one name.
-/
import Derived.Test.YtfoifdoaleaekaaGreatQf15
import Derived.Lib.BytesEntry
namespace Go.Proofs.YtfoifdoaleaekaaGreat
open Go.RowKit Go.Acc
theorem fail_any {M : Bp} {fl : Int} (x : Int) {w : World} {o : Nat → Nat} {b : Bd} (h : BM M fl w o b) : Calls Tryz.prog 127 #[.pointer (some ⟨M.β, 0, none⟩), .int .i64 x] w fun e w' => e = .returned (.tuple #[]) ∧ To (fun i => i = 2) w o w' o := by
  have HO := Lib.hid h.head.own
  obtain ⟨c0, c1, c2, c9, f2⟩ := h.head.cells
  clear h
  go_enter Tryz.func127, Tryz.ntmps127
  go_wp2
  go_end0
  refine ⟨rfl, To.of_fr0 (Fr.setCell (S := fun k => k = M.β) (Fr.refl _ w) (fun _ => rfl) _) ?_⟩
  rintro k _ rfl
  exact HO.out
structure FinOk (l : List UInt8) (v : Bv) (y : Nat) : Prop where
  legal : legalT v.t = true
  own : isW (v.w : Int) = true
  ly : leastW (fitsV v l.length 0) = y
  w : isW (y : Int) = true
  fit : fitsU y (elemN y (alignB y l).length v) = true
  lt : ((elemN y (alignB y l).length v : Nat) : Int) < 18446744073709551616
  le : inl v.t = false → v.n ≤ (alignB y l).length
  len : l.length + 20 ≤ 1048576
def FinW (w : World) (o : Nat → Nat) (m : List UInt8) (e : Ending) (w' : World) : Prop :=
  ∃ A n c, e = .returned (.tuple #[.slice A n c, .int .i64 0]) ∧ OwnB w' w.heap.size A n c m ∧ ∃ o', To Bld w o w' o'
theorem one_is (v : Bv) (a y : Nat) (w : World) (ha2 : a ≤ 1048576) (hy : leastW (fitsV v a 0) = y) :
    Calls Tryz.prog 128 #[.agg #[.int .i64 (v.t : Int), .int .i64 (v.w : Int), .int .u64 (v.n : Int)], .int .i64 (a : Int), .int .i64 0] w fun e w' => e = .returned (.int .i64 (y : Int)) ∧ Below w.heap.size w w' := by
  subst hy
  exact one_spec v a 0 w ha2 (by omega)
theorem two_bytes (W : World) (t : UInt8) (y : Nat) (hy : y ≤ 8) : IsB (W.alloc (.cells #[.int .u8 (t.toNat : Int), .int .u8 (y : Int)] 5)) (some ⟨W.heap.size, 0, none⟩) 2 [t, UInt8.ofNat y] := by
  refine ⟨rfl, fun j u hu => ⟨_, _, rfl, ?_⟩⟩
  rw [Nat.zero_add, (Blk.new W _ _).cell j]
  have e : ((UInt8.ofNat y).toNat : Int) = y := by rw [UInt8.toNat_ofNat']; omega
  have hu2 : [Value.int .u8 (t.toNat : Int), .int .u8 ((UInt8.ofNat y).toNat : Int)][j]? = some u := hu
  rw [e] at hu2
  simpa using hu2
theorem one_str (W : World) (s : List UInt8) : IsS (W.alloc (.cells #[.string ⟨s.toArray⟩] 9)) (some ⟨W.heap.size, 0, none⟩) 1 [s] := by
  refine ⟨rfl, fun j u hu => ⟨_, _, rfl, ?_⟩⟩
  rw [Nat.zero_add, (Blk.new W _ _).cell j]
  simpa [stc] using hu
structure FinS (M : Bp) (fl : Int) (b : Bd) (v : Bv) (vb : Nat) (w : World) (o : Nat → Nat) : Prop where
  m : BM M fl w o b
  x : Blk w vb 185 #[.int .i64 (v.t : Int), .int .i64 (v.w : Int), .int .u64 (v.n : Int)]
  ox : o vb = 0
theorem FinS.pure {M : Bp} {fl : Int} {b : Bd} {v : Bv} {vb : Nat} {w w' : World} {o : Nat → Nat} (h : FinS M fl b v vb w o) (hb : Below w.heap.size w w') : FinS M fl b v vb w' o := ⟨h.m.pure hb, h.x.pure hb, h.ox⟩
theorem FinS.fresh {M : Bp} {fl : Int} {b : Bd} {v : Bv} {vb : Nat} {w w' : World} {o : Nat → Nat} (h : FinS M fl b v vb w o) (hb : Below w.heap.size w w') : FinS M fl b v vb w' (newO o w.heap.size 0) := ⟨h.m.fresh hb 0, h.x.pure hb, by rw [newO_old h.x.lt]; exact h.ox⟩
theorem FinS.drew {M : Bp} {fl : Int} {b : Bd} {v : Bv} {vb : Nat} {w : World} {o : Nat → Nat} (h : FinS M fl b v vb w o) : FinS M fl b v vb w.drew o := h.pure (Below.refl _ _).drew
theorem FinS.buf_ {M : Bp} {fl : Int} {b : Bd} {v : Bv} {vb : Nat} {w w' : World} {o o' : Nat → Nat} {l : List UInt8} (h : FinS M fl b v vb w o) (ht : To (fun i => i = 1) w o w' o') (hb : Buf w' o' M.bb l) : FinS M fl { b with b := l } v vb w' o' :=
  ⟨h.m.buf_ ht hb, h.x.to_ ht (by rw [h.ox]; omega), by rw [ht.ow _ h.x.lt]; exact h.ox⟩
theorem FinS.cells {M : Bp} {fl : Int} {b : Bd} {v : Bv} {vb : Nat} {w : World} {o : Nat → Nat} (h : FinS M fl b v vb w o) :
    w.cell? ⟨vb, 0, none⟩ = some (.int .i64 (v.t : Int)) ∧ w.cell? ⟨vb, 1, none⟩ = some (.int .i64 (v.w : Int)) ∧ w.cell? ⟨vb, 2, none⟩ = some (.int .u64 (v.n : Int)) ∧ w.cell? ⟨M.β, 0, none⟩ = some (.pointer (some ⟨M.bb, 0, none⟩)) :=
  ⟨h.x.cell 0, h.x.cell 1, h.x.cell 2, h.m.head.cells.1⟩
set_option maxRecDepth 100000 in
set_option maxHeartbeats 4000000 in
theorem finish_spec (M : Bp) (fl : Int) (b : Bd) (v : Bv) (y : Nat) (w : World) (o : Nat → Nat) (h : BM M fl w o b) (hs : b.s = [v]) (hf : FinOk b.b v y) :
    Calls Tryz.prog 75 #[.pointer (some ⟨M.β, 0, none⟩)] w (FinW w o (alignB y b.b ++ leBytes y (elemN y (alignB y b.b).length v) ++ [bTag y v, UInt8.ofNat y])) := by
  have HM := Lib.hid h
  have HF := Lib.hid hf
  have HS := Lib.hid hs
  obtain ⟨b0, b1, b2, b9, f2⟩ := h.head.cells
  have HK := Lib.hid (show (0 : Nat) ≤ b.s.length from Nat.zero_le _)
  obtain ⟨a, ha⟩ : ∃ a, b.b.length = a := ⟨_, rfl⟩
  have HA := Lib.hid ha
  have HA2 := Lib.hid (show a ≤ 1048576 by have := hf.len; omega)
  have HLY := Lib.hid (show leastW (fitsV v a 0) = y by rw [← ha]; exact hf.ly)
  have HL7 := Lib.hid (show b.b.length + 7 ≤ 1048576 by have := hf.len; omega)
  clear h hs hf f2 ha
  go_enter Tryz.func75, Tryz.ntmps75
  go_wp2_with (go_at_call 125; refine (cnone_spec M.β _ (by assumption)).mono ?_; rintro e w' ⟨rfl, rfl⟩)
  refine (sfrom_is M.sb 0 b.s _ o HM.out.stk HK.out).mono ?_
  rw [List.drop_zero, HS.out]
  rintro e W1 ⟨A, n, c, rfl, hO, hB⟩
  have hn : n = 1 := by rw [← hO.1]; rfl
  have HI1 := Lib.hid (show IsV W1 A 1 [vv v] by have h := hO.is; rw [hn] at h; exact h)
  have HM1 := Lib.hid (HM.out.pure hB)
  obtain ⟨d0, d1, d2, d9, f2⟩ := HM1.out.head.cells
  have HB1 := Lib.hid hB
  subst hn
  obtain ⟨g, off, rfl, hk, h0, h1, h2⟩ := isv_at HI1.out (Nat.zero_lt_one)
  simp only [Nat.zero_mul, Nat.add_zero] at h0 h1 h2
  have v0 : W1.cell? ⟨g, off, none⟩ = some (.int .i64 (v.t : Int)) := h0
  have v1 : W1.cell? ⟨g, off + 1, none⟩ = some (.int .i64 (v.w : Int)) := h1
  have v2 : W1.cell? ⟨g, off + 2, none⟩ = some (.int .u64 (v.n : Int)) := h2
  clear hO hB b0 b1 b2 b9 f2 d9 h0 h1 h2 hk
  have hB2 : Below W1.heap.size W1 (W1.alloc (.cells #[.int .i64 (v.t : Int), .int .i64 (v.w : Int), .int .u64 (v.n : Int)] 185)) := (Below.refl _ _).alloc (Nat.le_refl _) _
  have HZ2 := Lib.hid (show FinS M fl b v W1.heap.size (W1.alloc (.cells #[.int .i64 (v.t : Int), .int .i64 (v.w : Int), .int .u64 (v.n : Int)] 185)) (newO o W1.heap.size 0) from ⟨HM1.out.fresh hB2 0, Blk.new _ _ _, newO_new (Nat.le_refl _)⟩)
  have HT2 := Lib.hid (show To Bld w o (W1.alloc (.cells #[.int .i64 (v.t : Int), .int .i64 (v.w : Int), .int .u64 (v.n : Int)] 185)) (newO o W1.heap.size 0) from To.from_pure HB1.out (To.fresh _ hB2 o 0))
  clear hB2
  go_upto_region 9 with fail
  generalize W1.alloc (.cells #[.int .i64 (v.t : Int), .int .i64 (v.w : Int), .int .u64 (v.n : Int)] 185) = W2 at HZ2 HT2 ⊢
  generalize newO o W1.heap.size 0 = o2 at HZ2 HT2
  have HSZ := Lib.hid HB1.out.size
  generalize W1.heap.size = vb at HZ2 ⊢
  clear HI1 HM1 d0 d1 d2 v0 v1 v2
  obtain ⟨x0, x1, x2, x3⟩ := HZ2.out.cells
  go_region_held3 (fun w' => w'.cell? ⟨vb, 0, none⟩ = some (.int .i64 (v.t : Int)) ∧ w'.cell? ⟨vb, 1, none⟩ = some (.int .i64 (v.w : Int)) ∧ w'.cell? ⟨vb, 2, none⟩ = some (.int .u64 (v.n : Int)) ∧ w'.cell? ⟨M.β, 0, none⟩ = some (.pointer (some ⟨M.bb, 0, none⟩))) (first | with_reducible exact ⟨x0, x1, x2, x3⟩ | with_reducible exact ⟨kdrew x0, kdrew x1, kdrew x2, kdrew x3⟩ | with_reducible exact ⟨kdrewN _ x0, kdrewN _ x1, kdrewN _ x2, kdrewN _ x3⟩ | with_reducible exact ⟨y0, y1, y2, y3⟩) (first | (go_at_call 129; (with_reducible refine (blen_is a HZ2.out.drew.m.buf HA.out).mono ?_); rintro e w' ⟨rfl, rfl⟩) | (go_at_call 128; (with_reducible refine (one_is v a y _ HA2.out HLY.out).mono ?_); rintro e W3 ⟨rfl, hb⟩; have HZ3 := Lib.hid (HZ2.out.drew.pure hb); obtain ⟨y0, y1, y2, y3⟩ := HZ3.out.cells; have HT3 := Lib.hid (HT2.out.trans (To.pure Bld hb o2).from_drew); clear hb))
  clear x0 x1 x2 x3 HZ2
  go_wp2_with fail
  go_at_call 130
  refine (balign_spec M.bb y b.b _ o2 HZ3.out.m.buf HF.out.w HL7.out).mono ?_
  rintro e W4 ⟨rfl, o4, hB4, hT4⟩
  have HZ4 := Lib.hid (HZ3.out.buf_ hT4 hB4)
  have HT4 := Lib.hid (HT3.out.trans (hT4.mono fun _ h => bld_1 h))
  obtain ⟨x0, x1, x2, x3⟩ := HZ4.out.cells
  clear hB4 hT4 y0 y1 y2 y3
  go_wp2_with fail
  go_at_call 17
  refine (inline_spec (v.t : Int) _).mono ?_
  obtain ⟨iv, hiv⟩ : ∃ x, inlineT (v.t : Int) = x := ⟨_, rfl⟩
  have HIV := Lib.hid hiv
  rw [hiv]
  clear hiv
  rintro e W5 ⟨rfl, hb⟩
  have HZ5 := Lib.hid (HZ4.out.pure hb)
  have HT5 := Lib.hid (HT4.out.trans (To.pure Bld hb o4))
  clear hb x0 x1 x2 x3
  obtain ⟨x0, x1, x2, x3⟩ := HZ5.out.cells
  obtain ⟨m, hm⟩ : ∃ m, (alignB y b.b).length = m := ⟨_, rfl⟩
  have HMM := Lib.hid hm
  obtain ⟨q, hq⟩ : ∃ q, elemN y m v = q := ⟨_, rfl⟩
  have HQ := Lib.hid hq
  have HFQ := Lib.hid (show fitsU y q = true by rw [← hq, ← hm]; exact HF.out.fit)
  have HLQ := Lib.hid (show (q : Int) < 18446744073709551616 by rw [← hq, ← hm]; exact HF.out.lt)
  clear hm hq
  obtain ⟨ow, how⟩ : ∃ x, (if inl v.t = true then y else v.w) = x := ⟨_, rfl⟩
  have HOW := Lib.hid how
  clear how
  go_upto_if 65 with fail
  go_cut [8, 9] (fun u8 u9 wx => ∃ wy, wy = wx ∧ u8 = .int .i64 (ow : Int) ∧ u9 = .int .u64 (q : Int) ∧ Below W5.heap.size W5 wx)
  case first =>
    cases iv with
    | true =>
      have hin : inl v.t = true := HIV.out
      have HQ2 := Lib.hid (show v.n % 2 ^ (8 * y) = q by rw [← HQ.out]; unfold elemN; rw [if_pos hin])
      have HO2 := Lib.hid (show ow = y by rw [← HOW.out, if_pos hin])
      clear hin
      go_wp2_with (go_at_call 131; (refine (low_is v.n y q _ HF.out.w HQ2.out).mono ?_); rintro e w' ⟨rfl, rfl⟩)
      go_meet
      exact ⟨_, rfl, by rw [HO2.out], rfl, Below.refl _ _⟩
    | false =>
      have hin : inl v.t = false := HIV.out
      have hne : ¬ inl v.t = true := by rw [hin]; decide
      have hle : v.n ≤ m := by rw [← HMM.out]; exact HF.out.le hin
      have hmb : m ≤ 1048576 := by
        have h1 := alignB_len b.b (show y ≤ 8 by have h2 := w_cases HF.out.w; omega)
        have h2 := HL7.out
        have h3 := HMM.out
        omega
      have hq2 : m - v.n = q := by rw [← HQ.out]; unfold elemN; rw [if_neg hne]
      have HO2 := Lib.hid (show ow = v.w by rw [← HOW.out, if_neg hne])
      have e1 : IntKind.u64.wrap (m : Int) = m := u64_in _ (by omega)
      have e2 : (m : Int) - (v.n : Int) = q := by omega
      have e3 : IntKind.u64.wrap (q : Int) = q := u64_in _ (by omega)
      clear hin hne hq2
      go_wp2_with fail
      go_region_held3 (fun w' => w'.cell? ⟨vb, 0, none⟩ = some (.int .i64 (v.t : Int)) ∧ w'.cell? ⟨vb, 1, none⟩ = some (.int .i64 (v.w : Int)) ∧ w'.cell? ⟨vb, 2, none⟩ = some (.int .u64 (v.n : Int)) ∧ w'.cell? ⟨M.β, 0, none⟩ = some (.pointer (some ⟨M.bb, 0, none⟩))) (first | with_reducible exact ⟨x0, x1, x2, x3⟩ | with_reducible exact ⟨kdrew x0, kdrew x1, kdrew x2, kdrew x3⟩ | with_reducible exact ⟨kdrewN _ x0, kdrewN _ x1, kdrewN _ x2, kdrewN _ x3⟩ | with_reducible exact ⟨y0, y1, y2, y3⟩) (first | (go_at_call 129; (with_reducible refine (blen_is m HZ5.out.drew.m.buf HMM.out).mono ?_); rintro e w' ⟨rfl, rfl⟩))
      go_wp2_with fail
      go_meet
      exact ⟨_, rfl, by rw [HO2.out], rfl, (Below.refl _ _).drew⟩
  case rest =>
  obtain ⟨w6, rfl, rfl, rfl, hb⟩ := hcut
  have HZ6 := Lib.hid (HZ5.out.pure hb)
  have HT6 := Lib.hid (HT5.out.trans (To.pure Bld hb o4))
  clear hb x0 x1 x2 x3
  obtain ⟨x0, x1, x2, x3⟩ := HZ6.out.cells
  have HPW := Lib.hid (show isW (ow : Int) = true by rw [← HOW.out]; split; exact HF.out.w; exact HF.out.own)
  obtain ⟨tb, htb⟩ : ∃ x, UInt8.ofNat (4 * v.t + bCode ow) = x := ⟨_, rfl⟩
  have HTB := Lib.hid htb
  have hpk := pack_spec v.t ow w6 HF.out.legal HPW.out
  rw [htb] at hpk
  have HPK := Lib.hid hpk
  clear htb hpk
  go_wp2_with fail
  go_at_call 132
  refine HPK.out.mono ?_
  rintro e W7 ⟨rfl, hb⟩
  have HZ7 := Lib.hid (HZ6.out.pure hb)
  have HT7 := Lib.hid (HT6.out.trans (To.pure Bld hb o4))
  clear hb x0 x1 x2 x3
  obtain ⟨x0, x1, x2, x3⟩ := HZ7.out.cells
  have HLN := Lib.hid (show (alignB y b.b).length + y ≤ 1048576 by
    have h2 := w_cases HF.out.w
    have h1 := alignB_len b.b (show y ≤ 8 by omega)
    have h3 := HF.out.len
    omega)
  go_wp2_with fail
  go_at_call 133
  refine (bnum_spec M.bb y q (alignB y b.b) _ o4 HZ7.out.m.buf HF.out.w HFQ.out HLQ.out HLN.out).mono ?_
  rintro e W8 ⟨rfl, o8, hB8, hT8⟩
  have HZ8 := Lib.hid (HZ7.out.buf_ hT8 hB8)
  have HT8 := Lib.hid (HT7.out.trans (hT8.mono fun _ h => bld_1 h))
  clear hB8 hT8 x0 x1 x2 x3
  obtain ⟨x0, x1, x2, x3⟩ := HZ8.out.cells
  go_upto_region 17 with fail
  have hy8 : y ≤ 8 := by have h2 := w_cases HF.out.w; omega
  have e8 : IntKind.u8.wrap (y : Int) = y := by show (y : Int) % 256 = y; omega
  have hI2 := two_bytes W8 tb y hy8
  have hcv1 := run_str (c := 2) hI2
  have hcv2 := run_str (c := 2) (w := (W8.alloc (.cells #[.int .u8 (tb.toNat : Int), .int .u8 (y : Int)] 5)).drew) hI2
  have hB9 : Below W8.heap.size W8 (((W8.alloc (.cells #[.int .u8 (tb.toNat : Int), .int .u8 (y : Int)] 5)).alloc (.cells #[.string ⟨[tb, UInt8.ofNat y].toArray⟩] 9))).drew := (below_two _ _ _).drew
  have HZ9 := Lib.hid (HZ8.out.fresh hB9)
  have HT9 := Lib.hid (HT8.out.trans (To.fresh Bld hB9 o8 0))
  have hS9 := one_str (W8.alloc (.cells #[.int .u8 (tb.toNat : Int), .int .u8 (y : Int)] 5)) [tb, UInt8.ofNat y]
  have eS : (W8.alloc (.cells #[.int .u8 (tb.toNat : Int), .int .u8 (y : Int)] 5)).heap.size = W8.heap.size + 1 := by simp
  rw [eS] at hS9
  have HS9 := Lib.hid (show IsS (((W8.alloc (.cells #[.int .u8 (tb.toNat : Int), .int .u8 (y : Int)] 5)).alloc (.cells #[.string ⟨[tb, UInt8.ofNat y].toArray⟩] 9))).drew (some ⟨W8.heap.size + 1, 0, none⟩) 1 [[tb, UInt8.ofNat y]] from hS9)
  have HO9 := Lib.hid (show ∀ ad, (some ⟨W8.heap.size + 1, 0, none⟩ : Option Addr) = some ad → newO o8 W8.heap.size 0 ad.block ≠ 1 from fun ad h => by injection h with h; subst h; rw [newO_new (by show W8.heap.size ≤ W8.heap.size + 1; omega)]; omega)
  have HL9 := Lib.hid (show (alignB y b.b ++ leBytes y q).length + [[tb, UInt8.ofNat y]].flatten.length ≤ 1048576 by
    have h1 := alignB_len b.b hy8
    have h3 := HF.out.len
    rw [List.length_append, leBytes_length]
    show _ + 2 ≤ _
    omega)
  have n0 := Nat.ne_of_lt (lt_of_cell x0)
  have n3 := Nat.ne_of_lt (lt_of_cell x3)
  simp only at n0 n3
  clear hI2 hB9 hS9 eS
  have z3 := kalloc (.cells #[.int .u8 (tb.toNat : Int), .int .u8 (y : Int)] 5) x3
  have z4 := kalloc (.cells #[.string ⟨[tb, UInt8.ofNat y].toArray⟩] 9) z3
  go_region_with (first | (go_at_call 134; (with_reducible refine (btext_spec M.bb 1 _ _ [[tb, UInt8.ofNat y]] (alignB y b.b ++ leBytes y q) _ _ HZ9.out.m.buf HS9.out HO9.out HL9.out (by omega)).mono ?_); rintro e W10 ⟨rfl, o10, hB10, hT10⟩; have HZ10 := Lib.hid (HZ9.out.buf_ hT10 hB10); have HT10 := Lib.hid (HT9.out.trans (hT10.mono fun _ h => bld_1 h)); clear hB10 hT10))
  all_goals
    have HZ10 := HZ10
    clear z3 z4 hcv1 hcv2 n0 n3
    obtain ⟨y0, y1, y2, y3⟩ := HZ10.out.cells
    have HLB := Lib.hid (show (alignB y b.b ++ leBytes y q ++ [[tb, UInt8.ofNat y]].flatten).length ≤ 1048576 by have := HL9.out; rw [List.length_append]; omega)
    go_wp2_with fail
    go_at_call 135
    refine (bbytes_spec M.bb _ _ o10 HZ10.out.m.buf HLB.out).mono ?_
    rintro e W11 ⟨A11, n11, c11, rfl, hO11, hB11⟩
    have HZ11 := Lib.hid (HZ10.out.m.fresh hB11 0)
    have HT11 := Lib.hid (HT10.out.trans (To.fresh Bld hB11 o10 0))
    have HO11 := Lib.hid hO11
    have HF11 := Lib.hid (show Of (newO o10 W10.heap.size 0) A11 0 from fun ad h => newO_new (hO11.addr ad h).2.1)
    clear y0 y1 y2 y3 hO11 hB11
    go_wp2_with fail
    go_at_call 127
    refine (fail_ok HZ11.out).mono ?_
    rintro e W12 ⟨rfl, o12, hM12, hT12⟩
    have HZ12 := Lib.hid hM12
    have HT12 := Lib.hid (HT11.out.trans hT12)
    have HO12 := Lib.hid (HO11.out.to_ HF11.out hT12 bld_0)
    have HF12 := Lib.hid (HF11.out.to_ HO11.out hT12)
    clear hM12 hT12
    go_wp2_with fail
    go_at_call 127
    refine (fail_any 140 HZ12.out).mono ?_
    rintro e W13 ⟨rfl, hT13⟩
    have HT13 := Lib.hid (HT12.out.trans (hT13.mono fun _ h => by subst h; exact ⟨by omega, by omega⟩))
    have HO13 := Lib.hid (HO12.out.to_ HF12.out hT13 (by omega))
    clear hT13
    go_wp2_with fail
    go_ret2
    refine ⟨A11, n11, c11, rfl, ?_, o12, HT13.out⟩
    have h := HO13.out.rebase (B' := w.heap.size) HT10.out.size
    have e : bTag y v = tb := by unfold bTag; rw [HOW.out, HTB.out]
    rw [HMM.out, HQ.out, e]
    exact h
end Go.Proofs.YtfoifdoaleaekaaGreat

namespace Go.Proofs.YtfoifdoaleaekaaGreat
open Go.RowKit Go.Acc
def zeroAt (l : List UInt8) (a : Nat) : Nat := a + (l.drop a).findIdx (· == 0)
theorem zeroAt_hit {l : List UInt8} {k : Nat} (hk : k < l.length) (h : l[k] = 0) : zeroAt l k = k := by
  unfold zeroAt
  rw [List.drop_eq_getElem_cons hk, List.findIdx_cons, h]
  rfl
theorem zeroAt_miss {l : List UInt8} {k : Nat} (hk : k < l.length) (h : l[k] ≠ 0) : zeroAt l (k + 1) = zeroAt l k := by
  unfold zeroAt
  rw [List.drop_eq_getElem_cons hk, List.findIdx_cons]
  have : (l[k] == 0) = false := by simpa using h
  rw [this]
  simp only [cond_false]
  omega
theorem zeroAt_end (l : List UInt8) : zeroAt l l.length = l.length := by
  unfold zeroAt
  simp
theorem zeroAt_le {l : List UInt8} {k : Nat} (hk : k ≤ l.length) : k ≤ zeroAt l k ∧ zeroAt l k ≤ l.length := by
  unfold zeroAt
  have := List.findIdx_le_length (xs := l.drop k) (p := (· == 0))
  rw [List.length_drop] at this
  omega
set_option maxHeartbeats 400000 in
theorem end_spec (A : Option Addr) (n c a : Nat) (l : List UInt8) (w : World) (h : IsB w A n l) (ha : a ≤ n) (hn : n ≤ 9223372036854775807) :
    Calls Tryz.prog 258 #[.slice A n c, .int .i64 a] w fun e w' => e = .returned (.tuple #[.int .i64 (zeroAt l a : Nat), .bool (decide (zeroAt l a < n))]) ∧ w = w' := by
  have hlen := h.1
  subst hlen
  have HI := Lib.hid h
  clear h
  go_enter Tryz.func258, Tryz.ntmps258
  go_wp2
  go_step3
  go_wp2
  go_step3
  go_wp2
  go_loop [6] (fun i => ∃ k : Nat, k ≤ l.length ∧ i = .int .i64 k ∧ zeroAt l k = zeroAt l a) (fun i => l.length - (intOf i).toNat)
  case atStart => exact ⟨a, ha, rfl, rfl⟩
  case round =>
    obtain ⟨k, hk, rfl, hz⟩ := hrel
    have HZ := Lib.hid hz
    clear hz
    by_cases hlt : k < l.length
    · obtain ⟨b, off, rfl, hkl, hc⟩ := isb_at HI.out hlt
      by_cases h0 : l[k] = 0
      · have HE := Lib.hid (show zeroAt l a = k by rw [← HZ.out, zeroAt_hit hlt h0])
        rw [h0] at hc
        clear h0
        go_wp2
        try rw [Exit.noGoto_ret]
        go_ret2
        rw [HE.out]
        exact ⟨by simp [hlt], rfl⟩
      · have HE := Lib.hid ((zeroAt_miss hlt h0).trans HZ.out)
        have hb : (l[k].toNat == 0) = false := by
          rw [beq_eq_false_iff_ne]
          intro e
          exact h0 (UInt8.toNat_inj.1 e)
        clear h0
        go_wp2
        go_round
        case rel => exact ⟨k + 1, by omega, by go_num, HE.out⟩
        case measure => simp [intOf]; omega
    · obtain rfl : l.length = k := by omega
      have HE := Lib.hid (show zeroAt l a = l.length by rw [← HZ.out, zeroAt_end])
      go_wp2
      try rw [Exit.noGoto_ret]
      go_ret2
      rw [HE.out]
      exact ⟨by simp, rfl⟩
set_option maxHeartbeats 400000 in
theorem bequal_spec (A B : Option Addr) (n n' c d : Nat) (l m : List UInt8) (w : World) (ha : IsB w A n l) (hb : IsB w B n' m) :
    Calls Tryz.prog 259 #[.slice A n c, .slice B n' d] w fun e w' => e = .returned (.bool (eqB l m)) ∧ w = w' := by
  have h1 := run_str (c := c) ha
  have h2 := run_str (c := d) hb
  have H := Lib.hid (show (l == m) = eqB l m by unfold eqB; rw [Bool.eq_iff_iff]; simp)
  clear ha hb
  go_enter Tryz.func259, Tryz.ntmps259
  go_wp2
  go_ret
  exact ⟨ret_bool H.out, rfl⟩

theorem idx_ge (l : List UInt8) (c : UInt8) : -1 ≤ Lib.indexByte l c := by
  induction l with
  | nil => simp [Lib.indexByte]
  | cons b l ih =>
    unfold Lib.indexByte
    split
    · omega
    · split <;> omega
theorem idx_neg (l : List UInt8) (c : UInt8) : decide (Lib.indexByte l c < 0) = !(l.contains c) := by
  induction l with
  | nil => simp [Lib.indexByte]
  | cons b l ih =>
    have hg := idx_ge l c
    unfold Lib.indexByte
    by_cases hb : b = c
    · subst hb
      simp
    · have e1 : (b == c) = false := by simpa using hb
      have e2 : (c == b) = false := by simpa using fun e : c = b => hb e.symm
      rw [e1, List.contains_cons, e2, Bool.false_or, ← ih, if_neg (by simp)]
      split
      · rename_i h
        simp only [beq_iff_eq] at h
        rw [h]
      · rename_i h
        simp only [beq_iff_eq] at h
        rw [Bool.eq_iff_iff]
        simp only [decide_eq_true_eq]
        omega
set_option maxRecDepth 100000 in
set_option maxHeartbeats 400000 in
theorem bidx_spec (A : Option Addr) (n c : Nat) (l : List UInt8) (x : UInt8) (v : Int) (w : World) (h : IsB w A n l) (hn : 0 < n) (hv : v = (x.toNat : Int)) :
    Calls Tryz.prog 237 #[.slice A n c, .int .u8 v] w fun e w' => e = .returned (.int .i64 (Lib.indexByte l x)) ∧ w = w' := by
  subst hv
  have hlen := h.1
  subst hlen
  obtain ⟨b, off, rfl, _⟩ := isb_at h hn
  have hc : ∀ i, i < l.length → w.cell? ⟨b, off + i, none⟩ = some (.int .u8 ((l.map fun x : UInt8 => (x.toNat : Int)).getD i 0)) := by
    intro i hi
    obtain ⟨b', off', e, hk, hc⟩ := isb_at h hi
    injection e with e
    injection e with e1 e2
    subst e1 e2
    rw [hc]
    simp [List.getD_eq_getElem?_getD, hk]
  have hr := Lib.run_indexByteSlice (P := Tryz.prog) w b off l.length c (l.map fun x : UInt8 => (x.toNat : Int)) (by simp) hc (x.toNat : Int)
  have e1 : Lib.bytesOf (l.map fun x : UInt8 => (x.toNat : Int)) = l := by
    unfold Lib.bytesOf
    rw [List.map_map]
    conv => rhs; rw [← List.map_id l]
    exact List.map_congr_left (fun x _ => by simp)
  have e2 : ((x.toNat : Int)).toNat.toUInt8 = x := by simp
  rw [e1, e2] at hr
  clear hc e1 e2 h
  go_enter Tryz.func237, Tryz.ntmps237
  go_wp2
  rw [run_callFunc_extern Tryz.func257 (by kernel_rfl) (by kernel_rfl) (by kernel_rfl) (e := Extern.BytealgIndexByte.indexByte) (by kernel_rfl), hr]
  simp only [Result.andThen]
  rw [Oper.upon_value]
  go_wp2
  go_ret
  exact ⟨rfl, rfl⟩
end Go.Proofs.YtfoifdoaleaekaaGreat

namespace Go.Proofs.YtfoifdoaleaekaaGreat
open Go.RowKit Go.Acc
def tc (x : Nat) : List Value := [.int .i64 (x : Int)]
theorem tc_at {w : World} {A : Option Addr} {n k : Nat} {l : List Nat} (h : Is tc w A n l) (hk : k < n) : ∃ b off, A = some ⟨b, off, none⟩ ∧ ∃ hk : k < l.length, w.cell? ⟨b, off + k, none⟩ = some (.int .i64 (l[k] : Nat)) := by
  obtain ⟨b, off, e, hk', hc⟩ := h.at_ (fun _ => rfl) (sz := 1) (by omega) hk
  have := hc 0 (by omega)
  rw [Nat.mul_one, Nat.add_zero] at this
  exact ⟨b, off, e, hk', this⟩
set_option maxHeartbeats 1000000 in
theorem asb_spec (A : Option Addr) (n c : Nat) (ts : List Nat) (w : World) (h : Is tc w A n ts) (hn : n ≤ 100) (ht : ∀ t ∈ ts, t < 256) :
    Calls Tryz.prog 238 #[.slice A n c] w (CopiedB w (ts.map UInt8.ofNat)) := by
  have hlen := h.1
  subst hlen
  have HI := Lib.hid h
  have HT := Lib.hid ht
  clear h ht
  go_enter Tryz.func238, Tryz.ntmps238
  go_wp2
  go_loopw [2, 4, 7] (fun o _ i wr => ∃ (k : Nat) (A0 : Option Addr) (c0 : Nat), k ≤ ts.length ∧ i = .int .i64 k ∧ o = .slice A0 k c0 ∧ OwnB wr w.heap.size A0 k c0 ((ts.take k).map UInt8.ofNat) ∧ Below w.heap.size w wr) (fun _ _ i _ => ts.length - (intOf i).toNat)
  case atStart => exact ⟨0, none, 0, by omega, rfl, rfl, Own.nil _ _, Below.refl _ _⟩
  case round =>
    obtain ⟨k, A0, c0, hk, rfl, rfl, hO, hB⟩ := hrel
    have HO := Lib.hid hO
    have HBr := Lib.hid hB
    clear hO hB
    by_cases hlt : k < ts.length
    · obtain ⟨b, off, rfl, hkl, hc⟩ := tc_at (HI.out.pure HBr.out) hlt
      have hx := HT.out ts[k] (List.getElem_mem hkl)
      have htk : (ts.take (k + 1)).map UInt8.ofNat = (ts.take k).map UInt8.ofNat ++ [UInt8.ofNat ts[k]] := by
        rw [List.take_succ_eq_append_getElem hkl, List.map_append]; rfl
      have HTK := Lib.hid htk
      clear htk
      generalize ts[k] = t at hc hx HTK
      have hw : IntKind.u8.wrap (t : Int) = ((UInt8.ofNat t).toNat : Int) := by
        rw [IntKind.wrap_u8, UInt8.toNat_ofNat']
        omega
      go_wp2_with (at_builtin; refine wpl_app _ rfl (.tmp 11) (.tmp 14) _ rfl 5 _ 1 1 Tryz.underlying29 info_b rfl (by omega) bc_len bc_one _ _ _ _ _ rfl (HO.out.pure ((Below.refl _ _).alloc (Nat.le_refl _) _)) _ _ _ _ rfl (isb_new _ _ (UInt8.ofNat t) hw) (by omega) (by have := HBr.out.size; simp; omega) ?_; intro A1 c1 w4 hown hfr hat; have HO1 := Lib.hid hown; have HF1 := Lib.hid hfr; clear hown hfr hat)
      exact ⟨⟨k + 1, A1, c1, by omega, by go_num, rfl, by rw [HTK.out]; exact HO1.out, below_fr (HBr.out.alloc HBr.out.size _) HF1.out (by rintro j ⟨ad, h, rfl⟩; exact (HO.out.addr ad h).2.1)⟩, by simp [intOf]; omega⟩
    · obtain rfl : k = ts.length := by omega
      go_wp2
      go_ret
      rw [List.take_length] at HO
      exact ⟨A0, _, c0, rfl, HO.out, HBr.out⟩

def keyE (l : List UInt8) (a : Nat) : Int := if zeroAt l a < l.length then 0 else 213
def cntE (l : List UInt8) (a v k : Nat) : Int :=
  if a % v ≠ 0 then 212 else if a < v then 211 else if l.length < a + loadU l ((a : Int) - v) v + k then 211
  else if ((l.drop (a + loadU l ((a : Int) - v) v)).take k) = List.replicate k 0 then 0 else 213
def cntL (l : List UInt8) (a v : Nat) : List UInt8 := (l.drop a).take (loadU l ((a : Int) - v) v)
def keyL (l : List UInt8) (a : Nat) : List UInt8 := (l.drop a).take (zeroAt l a - a)
def FoundW (w : World) (A0 : Option Addr) (n0 : Nat) (l : List UInt8) (a : Int) (m : List UInt8) (er : Int) (e : Ending) (w' : World) : Prop :=
  ∃ A n c, e = .returned (.tuple #[.agg #[.int .i64 a, .slice A n c], .int .i64 er]) ∧ (∀ w0, IsB w0 A0 n0 l → IsB w0 A n m) ∧ n ≤ c ∧ Below w.heap.size w w'
end Go.Proofs.YtfoifdoaleaekaaGreat

namespace Go.Proofs.YtfoifdoaleaekaaGreat
open Go.RowKit Go.Acc
theorem keyE_no {l : List UInt8} {a : Nat} (h : ¬ zeroAt l a < l.length) : keyE l a = 213 := if_neg h
theorem keyE_yes {l : List UInt8} {a : Nat} (h : zeroAt l a < l.length) : keyE l a = 0 := if_pos h
set_option maxHeartbeats 1000000 in
theorem key_spec (A : Option Addr) (n c a : Nat) (l : List UInt8) (w : World) (h : IsB w A n l) (hc : n ≤ c) (ha : a ≤ n) (hn : n ≤ 9223372036854775807) :
    Calls Tryz.prog 239 #[.slice A n c, .int .i64 a] w (FoundW w A n l (if keyE l a = 0 then a else 0) (if keyE l a = 0 then keyL l a else []) (keyE l a)) := by
  have hlen := h.1
  subst hlen
  have HI := Lib.hid (h.alloc (.cells #[.int .i64 0, .slice none 0 0] 257))
  have HI0 := Lib.hid h
  clear h
  by_cases hz : zeroAt l a < l.length
  · rw [keyE_yes hz, if_pos rfl, if_pos rfl]
    have hzb := zeroAt_le (l := l) ha
    have hz1 := hzb.1
    have HZ := Lib.hid (show keyL l a = (l.drop a).take (zeroAt l a - a) from rfl)
    rw [HZ.out]
    obtain ⟨z, hze⟩ : ∃ z, zeroAt l a = z := ⟨_, rfl⟩
    have HZE := Lib.hid hze
    rw [hze] at hz hz1 ⊢
    clear hzb hze
    by_cases haz : z = a
    · subst haz
      go_enter Tryz.func239, Tryz.ntmps239
      go_wp2_with fail
      go_at_call 258
      refine (end_spec A _ c z l _ HI.out ha hn).mono ?_
      rw [HZE.out]
      rintro e w1 ⟨rfl, rfl⟩
      go_wp2
      refine bodyPost_ret (v := .tuple #[.agg #[.int .i64 z, .slice A 0 0], .int .i64 0]) (by simp [results, Tryz.results239, go_sem]) rfl ⟨A, 0, 0, rfl, ?_, Nat.le_refl _, ?_⟩
      · rw [Nat.sub_self, List.take_zero]
        exact fun _ _ => Is.nil _ _
      · exact (Below.refl _ _).alloc (Nat.le_refl _) _
    · have hlt : a < z := by omega
      have hza : ¬ z = a := haz
      go_enter Tryz.func239, Tryz.ntmps239
      go_wp2_with fail
      go_at_call 258
      refine (end_spec A _ c a l _ HI.out ha hn).mono ?_
      rw [HZE.out]
      rintro e w1 ⟨rfl, rfl⟩
      go_wp2
      refine bodyPost_ret (v := .tuple #[.agg #[.int .i64 a, .slice (A.map fun p => p.add a) (z - a) (z - a)], .int .i64 0]) (by simp [results, Tryz.results239, go_sem]) rfl ⟨_, _, _, rfl, ?_, Nat.le_refl _, ?_⟩
      · exact fun _ h => isb_part h (by omega)
      · exact (Below.refl _ _).alloc (Nat.le_refl _) _
  · rw [keyE_no hz, if_neg (by decide), if_neg (by decide)]
    go_enter Tryz.func239, Tryz.ntmps239
    go_wp2_with fail
    go_at_call 258
    refine (end_spec A _ c a l _ HI.out ha hn).mono ?_
    rintro e w1 ⟨rfl, rfl⟩
    go_wp2
    refine bodyPost_ret (v := .tuple #[.agg #[.int .i64 0, .slice none 0 0], .int .i64 213]) (by simp [results, Tryz.results239, go_sem]) rfl ⟨none, 0, 0, rfl, fun _ _ => Is.nil _ _, Nat.le_refl _, ?_⟩
    exact (Below.refl _ _).alloc (Nat.le_refl _) _
end Go.Proofs.YtfoifdoaleaekaaGreat

namespace Go.Proofs.YtfoifdoaleaekaaGreat
open Go.RowKit Go.Acc
theorem cut_any (A : Option Addr) (n c lo hi : Nat) (h1 : lo ≤ hi) (h2 : hi ≤ n) (hc : n ≤ c) : ∃ X, (∀ w, (Instr.sliceAt 29 (.slice A n c) (some (.int .i64 lo)) (some (.int .i64 hi)) none).run Tryz.prog w = .ok (.slice X (hi - lo) (c - lo)) w) ∧
    ∀ w l, IsB w A n l → IsB w X (hi - lo) ((l.drop lo).take (hi - lo)) := by
  refine ⟨if c = lo then A else A.map (·.add lo), fun w => ?_, fun w l h => ?_⟩
  · have ht : Tryz.prog.underlying 29 = some (.slice (Tryz.prog.elem 29)) := by kernel_rfl
    have hz : (sizeOf (Tryz.prog.elem 29)).run Tryz.prog w = .ok 1 w := by kernel_rfl
    rw [run_sliceAt_slice (h := ht), run_slice_lh (ht := ht) (h0 := by omega) (h1 := by omega) (h2 := by omega), hz]
    simp [Result.andThen, sliced]
  · split
    · have e : hi - lo = 0 := by omega
      rw [e, List.take_zero]
      exact Is.nil _ _
    · exact isb_part h (by omega)
theorem cut_full (A : Option Addr) (n c lo hi : Nat) (h1 : lo ≤ hi) (h2 : hi ≤ n) (hc : n ≤ c) : ∃ X, (∀ w, (Instr.sliceAt 29 (.slice A n c) (some (.int .i64 lo)) (some (.int .i64 hi)) (some (.int .i64 hi))).run Tryz.prog w = .ok (.slice X (hi - lo) (hi - lo)) w) ∧
    ∀ w l, IsB w A n l → IsB w X (hi - lo) ((l.drop lo).take (hi - lo)) := by
  refine ⟨if hi = lo then A else A.map (·.add lo), fun w => ?_, fun w l h => ?_⟩
  · have ht : Tryz.prog.underlying 29 = some (.slice (Tryz.prog.elem 29)) := by kernel_rfl
    have hz : (sizeOf (Tryz.prog.elem 29)).run Tryz.prog w = .ok 1 w := by kernel_rfl
    rw [run_sliceAt_slice (h := ht), run_slice_lhm (ht := ht) (h0 := by omega) (h1 := by omega) (h2 := by omega) (h3 := by omega), hz]
    simp [Result.andThen, sliced]
  · split
    · have e : hi - lo = 0 := by omega
      rw [e, List.take_zero]
      exact Is.nil _ _
    · exact isb_part h (by omega)
end Go.Proofs.YtfoifdoaleaekaaGreat
