/-
  Package build: Finish.
  The document of a key, a string, a blob: what Finish needs, and what the readers of text find, with bytes ahead and behind. No program in sight.
  Package list, plain: a built document with bytes ahead, as the readers of lists find it. No program in sight.
  Package build: New.
  The arguments of a law, opened to cells: integers, slices of structs, slices of slices; and what a law's last step wants.
  Trees in memory: a node's value, its keys and children in slices; the nodes in preorder.
-/
import Derived.Test.YtfoifdoaleaekaaGreatQg15
import Derived.Lib.BytesEntry
namespace Go.Proofs.YtfoifdoaleaekaaGreat
open Go.RowKit Go.Acc
theorem fail_any {M : Bp} {fl : Int} (x : Int) {w : World} {o : Nat → Nat} {b : Bd} (h : BM M fl w o b) : Calls Tryz.prog 127 #[.pointer (some ⟨M.β, 0, none⟩), .int .i64 x] w fun e w' => e = .returned (.tuple #[]) ∧ To (fun i => i = 2) w o w' o := by
  have HO := Lib.hid h.head.own
  obtain ⟨c0, c1, c2, c9, f2⟩ := h.head.cells
  clear h
  go_enter Tryz.func127, Tryz.ntmps127
  go_wp2
  go_end0
  refine ⟨rfl, To.of_fr0 (Fr.setCell (S := fun k => k = M.β) (Fr.refl _ w) (fun _ => rfl) _) ?_⟩
  rintro k _ rfl
  exact HO.out
structure FinOk (l : List UInt8) (v : Bv) (y : Nat) : Prop where
  legal : legalT v.t = true
  own : isW (v.w : Int) = true
  ly : leastW (fitsV v l.length 0) = y
  w : isW (y : Int) = true
  fit : fitsU y (elemN y (alignB y l).length v) = true
  lt : ((elemN y (alignB y l).length v : Nat) : Int) < 18446744073709551616
  le : inl v.t = false → v.n ≤ (alignB y l).length
  len : l.length + 20 ≤ 1048576
def FinW (w : World) (o : Nat → Nat) (m : List UInt8) (e : Ending) (w' : World) : Prop :=
  ∃ A n c, e = .returned (.tuple #[.slice A n c, .int .i64 0]) ∧ OwnB w' w.heap.size A n c m ∧ ∃ o', To Bld w o w' o'
theorem one_is (v : Bv) (a y : Nat) (w : World) (ha2 : a ≤ 1048576) (hy : leastW (fitsV v a 0) = y) :
    Calls Tryz.prog 128 #[.agg #[.int .i64 (v.t : Int), .int .i64 (v.w : Int), .int .u64 (v.n : Int)], .int .i64 (a : Int), .int .i64 0] w fun e w' => e = .returned (.int .i64 (y : Int)) ∧ Below w.heap.size w w' := by
  subst hy
  exact one_spec v a 0 w ha2 (by omega)
theorem two_bytes (W : World) (t : UInt8) (y : Nat) (hy : y ≤ 8) : IsB (W.alloc (.cells #[.int .u8 (t.toNat : Int), .int .u8 (y : Int)] 5)) (some ⟨W.heap.size, 0, none⟩) 2 [t, UInt8.ofNat y] := by
  refine ⟨rfl, fun j u hu => ⟨_, _, rfl, ?_⟩⟩
  rw [Nat.zero_add, (Blk.new W _ _).cell j]
  have e : ((UInt8.ofNat y).toNat : Int) = y := by rw [UInt8.toNat_ofNat']; omega
  have hu2 : [Value.int .u8 (t.toNat : Int), .int .u8 ((UInt8.ofNat y).toNat : Int)][j]? = some u := hu
  rw [e] at hu2
  simpa using hu2
theorem one_str (W : World) (s : List UInt8) : IsS (W.alloc (.cells #[.string ⟨s.toArray⟩] 9)) (some ⟨W.heap.size, 0, none⟩) 1 [s] := by
  refine ⟨rfl, fun j u hu => ⟨_, _, rfl, ?_⟩⟩
  rw [Nat.zero_add, (Blk.new W _ _).cell j]
  simpa [stc] using hu
structure FinS (M : Bp) (fl : Int) (b : Bd) (v : Bv) (vb : Nat) (w : World) (o : Nat → Nat) : Prop where
  m : BM M fl w o b
  x : Blk w vb 185 #[.int .i64 (v.t : Int), .int .i64 (v.w : Int), .int .u64 (v.n : Int)]
  ox : o vb = 0
theorem FinS.pure {M : Bp} {fl : Int} {b : Bd} {v : Bv} {vb : Nat} {w w' : World} {o : Nat → Nat} (h : FinS M fl b v vb w o) (hb : Below w.heap.size w w') : FinS M fl b v vb w' o := ⟨h.m.pure hb, h.x.pure hb, h.ox⟩
theorem FinS.fresh {M : Bp} {fl : Int} {b : Bd} {v : Bv} {vb : Nat} {w w' : World} {o : Nat → Nat} (h : FinS M fl b v vb w o) (hb : Below w.heap.size w w') : FinS M fl b v vb w' (newO o w.heap.size 0) := ⟨h.m.fresh hb 0, h.x.pure hb, by rw [newO_old h.x.lt]; exact h.ox⟩
theorem FinS.drew {M : Bp} {fl : Int} {b : Bd} {v : Bv} {vb : Nat} {w : World} {o : Nat → Nat} (h : FinS M fl b v vb w o) : FinS M fl b v vb w.drew o := h.pure (Below.refl _ _).drew
theorem FinS.buf_ {M : Bp} {fl : Int} {b : Bd} {v : Bv} {vb : Nat} {w w' : World} {o o' : Nat → Nat} {l : List UInt8} (h : FinS M fl b v vb w o) (ht : To (fun i => i = 1) w o w' o') (hb : Buf w' o' M.bb l) : FinS M fl { b with b := l } v vb w' o' :=
  ⟨h.m.buf_ ht hb, h.x.to_ ht (by rw [h.ox]; omega), by rw [ht.ow _ h.x.lt]; exact h.ox⟩
theorem FinS.cells {M : Bp} {fl : Int} {b : Bd} {v : Bv} {vb : Nat} {w : World} {o : Nat → Nat} (h : FinS M fl b v vb w o) :
    w.cell? ⟨vb, 0, none⟩ = some (.int .i64 (v.t : Int)) ∧ w.cell? ⟨vb, 1, none⟩ = some (.int .i64 (v.w : Int)) ∧ w.cell? ⟨vb, 2, none⟩ = some (.int .u64 (v.n : Int)) ∧ w.cell? ⟨M.β, 0, none⟩ = some (.pointer (some ⟨M.bb, 0, none⟩)) :=
  ⟨h.x.cell 0, h.x.cell 1, h.x.cell 2, h.m.head.cells.1⟩
set_option maxRecDepth 100000 in
set_option maxHeartbeats 4000000 in
theorem finish_spec (M : Bp) (fl : Int) (b : Bd) (v : Bv) (y : Nat) (w : World) (o : Nat → Nat) (h : BM M fl w o b) (hs : b.s = [v]) (hf : FinOk b.b v y) :
    Calls Tryz.prog 75 #[.pointer (some ⟨M.β, 0, none⟩)] w (FinW w o (alignB y b.b ++ leBytes y (elemN y (alignB y b.b).length v) ++ [bTag y v, UInt8.ofNat y])) := by
  have HM := Lib.hid h
  have HF := Lib.hid hf
  have HS := Lib.hid hs
  obtain ⟨b0, b1, b2, b9, f2⟩ := h.head.cells
  have HK := Lib.hid (show (0 : Nat) ≤ b.s.length from Nat.zero_le _)
  obtain ⟨a, ha⟩ : ∃ a, b.b.length = a := ⟨_, rfl⟩
  have HA := Lib.hid ha
  have HA2 := Lib.hid (show a ≤ 1048576 by have := hf.len; omega)
  have HLY := Lib.hid (show leastW (fitsV v a 0) = y by rw [← ha]; exact hf.ly)
  have HL7 := Lib.hid (show b.b.length + 7 ≤ 1048576 by have := hf.len; omega)
  clear h hs hf f2 ha
  go_enter Tryz.func75, Tryz.ntmps75
  go_wp2_with (go_at_call 125; refine (cnone_spec M.β _ (by assumption)).mono ?_; rintro e w' ⟨rfl, rfl⟩)
  refine (sfrom_is M.sb 0 b.s _ o HM.out.stk HK.out).mono ?_
  rw [List.drop_zero, HS.out]
  rintro e W1 ⟨A, n, c, rfl, hO, hB⟩
  have hn : n = 1 := by rw [← hO.1]; rfl
  have HI1 := Lib.hid (show IsV W1 A 1 [vv v] by have h := hO.is; rw [hn] at h; exact h)
  have HM1 := Lib.hid (HM.out.pure hB)
  obtain ⟨d0, d1, d2, d9, f2⟩ := HM1.out.head.cells
  have HB1 := Lib.hid hB
  subst hn
  obtain ⟨g, off, rfl, hk, h0, h1, h2⟩ := isv_at HI1.out (Nat.zero_lt_one)
  simp only [Nat.zero_mul, Nat.add_zero] at h0 h1 h2
  have v0 : W1.cell? ⟨g, off, none⟩ = some (.int .i64 (v.t : Int)) := h0
  have v1 : W1.cell? ⟨g, off + 1, none⟩ = some (.int .i64 (v.w : Int)) := h1
  have v2 : W1.cell? ⟨g, off + 2, none⟩ = some (.int .u64 (v.n : Int)) := h2
  clear hO hB b0 b1 b2 b9 f2 d9 h0 h1 h2 hk
  have hB2 : Below W1.heap.size W1 (W1.alloc (.cells #[.int .i64 (v.t : Int), .int .i64 (v.w : Int), .int .u64 (v.n : Int)] 185)) := (Below.refl _ _).alloc (Nat.le_refl _) _
  have HZ2 := Lib.hid (show FinS M fl b v W1.heap.size (W1.alloc (.cells #[.int .i64 (v.t : Int), .int .i64 (v.w : Int), .int .u64 (v.n : Int)] 185)) (newO o W1.heap.size 0) from ⟨HM1.out.fresh hB2 0, Blk.new _ _ _, newO_new (Nat.le_refl _)⟩)
  have HT2 := Lib.hid (show To Bld w o (W1.alloc (.cells #[.int .i64 (v.t : Int), .int .i64 (v.w : Int), .int .u64 (v.n : Int)] 185)) (newO o W1.heap.size 0) from To.from_pure HB1.out (To.fresh _ hB2 o 0))
  clear hB2
  go_upto_region 9 with fail
  generalize W1.alloc (.cells #[.int .i64 (v.t : Int), .int .i64 (v.w : Int), .int .u64 (v.n : Int)] 185) = W2 at HZ2 HT2 ⊢
  generalize newO o W1.heap.size 0 = o2 at HZ2 HT2
  have HSZ := Lib.hid HB1.out.size
  generalize W1.heap.size = vb at HZ2 ⊢
  clear HI1 HM1 d0 d1 d2 v0 v1 v2
  obtain ⟨x0, x1, x2, x3⟩ := HZ2.out.cells
  go_region_held3 (fun w' => w'.cell? ⟨vb, 0, none⟩ = some (.int .i64 (v.t : Int)) ∧ w'.cell? ⟨vb, 1, none⟩ = some (.int .i64 (v.w : Int)) ∧ w'.cell? ⟨vb, 2, none⟩ = some (.int .u64 (v.n : Int)) ∧ w'.cell? ⟨M.β, 0, none⟩ = some (.pointer (some ⟨M.bb, 0, none⟩))) (first | with_reducible exact ⟨x0, x1, x2, x3⟩ | with_reducible exact ⟨kdrew x0, kdrew x1, kdrew x2, kdrew x3⟩ | with_reducible exact ⟨kdrewN _ x0, kdrewN _ x1, kdrewN _ x2, kdrewN _ x3⟩ | with_reducible exact ⟨y0, y1, y2, y3⟩) (first | (go_at_call 129; (with_reducible refine (blen_is a HZ2.out.drew.m.buf HA.out).mono ?_); rintro e w' ⟨rfl, rfl⟩) | (go_at_call 128; (with_reducible refine (one_is v a y _ HA2.out HLY.out).mono ?_); rintro e W3 ⟨rfl, hb⟩; have HZ3 := Lib.hid (HZ2.out.drew.pure hb); obtain ⟨y0, y1, y2, y3⟩ := HZ3.out.cells; have HT3 := Lib.hid (HT2.out.trans (To.pure Bld hb o2).from_drew); clear hb))
  clear x0 x1 x2 x3 HZ2
  go_wp2_with fail
  go_at_call 130
  refine (balign_spec M.bb y b.b _ o2 HZ3.out.m.buf HF.out.w HL7.out).mono ?_
  rintro e W4 ⟨rfl, o4, hB4, hT4⟩
  have HZ4 := Lib.hid (HZ3.out.buf_ hT4 hB4)
  have HT4 := Lib.hid (HT3.out.trans (hT4.mono fun _ h => bld_1 h))
  obtain ⟨x0, x1, x2, x3⟩ := HZ4.out.cells
  clear hB4 hT4 y0 y1 y2 y3
  go_wp2_with fail
  go_at_call 17
  refine (inline_spec (v.t : Int) _).mono ?_
  obtain ⟨iv, hiv⟩ : ∃ x, inlineT (v.t : Int) = x := ⟨_, rfl⟩
  have HIV := Lib.hid hiv
  rw [hiv]
  clear hiv
  rintro e W5 ⟨rfl, hb⟩
  have HZ5 := Lib.hid (HZ4.out.pure hb)
  have HT5 := Lib.hid (HT4.out.trans (To.pure Bld hb o4))
  clear hb x0 x1 x2 x3
  obtain ⟨x0, x1, x2, x3⟩ := HZ5.out.cells
  obtain ⟨m, hm⟩ : ∃ m, (alignB y b.b).length = m := ⟨_, rfl⟩
  have HMM := Lib.hid hm
  obtain ⟨q, hq⟩ : ∃ q, elemN y m v = q := ⟨_, rfl⟩
  have HQ := Lib.hid hq
  have HFQ := Lib.hid (show fitsU y q = true by rw [← hq, ← hm]; exact HF.out.fit)
  have HLQ := Lib.hid (show (q : Int) < 18446744073709551616 by rw [← hq, ← hm]; exact HF.out.lt)
  clear hm hq
  obtain ⟨ow, how⟩ : ∃ x, (if inl v.t = true then y else v.w) = x := ⟨_, rfl⟩
  have HOW := Lib.hid how
  clear how
  go_upto_if 65 with fail
  go_cut [8, 9] (fun u8 u9 wx => ∃ wy, wy = wx ∧ u8 = .int .i64 (ow : Int) ∧ u9 = .int .u64 (q : Int) ∧ Below W5.heap.size W5 wx)
  case first =>
    cases iv with
    | true =>
      have hin : inl v.t = true := HIV.out
      have HQ2 := Lib.hid (show v.n % 2 ^ (8 * y) = q by rw [← HQ.out]; unfold elemN; rw [if_pos hin])
      have HO2 := Lib.hid (show ow = y by rw [← HOW.out, if_pos hin])
      clear hin
      go_wp2_with (go_at_call 131; (refine (low_is v.n y q _ HF.out.w HQ2.out).mono ?_); rintro e w' ⟨rfl, rfl⟩)
      go_meet
      exact ⟨_, rfl, by rw [HO2.out], rfl, Below.refl _ _⟩
    | false =>
      have hin : inl v.t = false := HIV.out
      have hne : ¬ inl v.t = true := by rw [hin]; decide
      have hle : v.n ≤ m := by rw [← HMM.out]; exact HF.out.le hin
      have hmb : m ≤ 1048576 := by
        have h1 := alignB_len b.b (show y ≤ 8 by have h2 := w_cases HF.out.w; omega)
        have h2 := HL7.out
        have h3 := HMM.out
        omega
      have hq2 : m - v.n = q := by rw [← HQ.out]; unfold elemN; rw [if_neg hne]
      have HO2 := Lib.hid (show ow = v.w by rw [← HOW.out, if_neg hne])
      have e1 : IntKind.u64.wrap (m : Int) = m := u64_in _ (by omega)
      have e2 : (m : Int) - (v.n : Int) = q := by omega
      have e3 : IntKind.u64.wrap (q : Int) = q := u64_in _ (by omega)
      clear hin hne hq2
      go_wp2_with fail
      go_region_held3 (fun w' => w'.cell? ⟨vb, 0, none⟩ = some (.int .i64 (v.t : Int)) ∧ w'.cell? ⟨vb, 1, none⟩ = some (.int .i64 (v.w : Int)) ∧ w'.cell? ⟨vb, 2, none⟩ = some (.int .u64 (v.n : Int)) ∧ w'.cell? ⟨M.β, 0, none⟩ = some (.pointer (some ⟨M.bb, 0, none⟩))) (first | with_reducible exact ⟨x0, x1, x2, x3⟩ | with_reducible exact ⟨kdrew x0, kdrew x1, kdrew x2, kdrew x3⟩ | with_reducible exact ⟨kdrewN _ x0, kdrewN _ x1, kdrewN _ x2, kdrewN _ x3⟩ | with_reducible exact ⟨y0, y1, y2, y3⟩) (first | (go_at_call 129; (with_reducible refine (blen_is m HZ5.out.drew.m.buf HMM.out).mono ?_); rintro e w' ⟨rfl, rfl⟩))
      go_wp2_with fail
      go_meet
      exact ⟨_, rfl, by rw [HO2.out], rfl, (Below.refl _ _).drew⟩
  case rest =>
  obtain ⟨w6, rfl, rfl, rfl, hb⟩ := hcut
  have HZ6 := Lib.hid (HZ5.out.pure hb)
  have HT6 := Lib.hid (HT5.out.trans (To.pure Bld hb o4))
  clear hb x0 x1 x2 x3
  obtain ⟨x0, x1, x2, x3⟩ := HZ6.out.cells
  have HPW := Lib.hid (show isW (ow : Int) = true by rw [← HOW.out]; split; exact HF.out.w; exact HF.out.own)
  obtain ⟨tb, htb⟩ : ∃ x, UInt8.ofNat (4 * v.t + bCode ow) = x := ⟨_, rfl⟩
  have HTB := Lib.hid htb
  have hpk := pack_spec v.t ow w6 HF.out.legal HPW.out
  rw [htb] at hpk
  have HPK := Lib.hid hpk
  clear htb hpk
  go_wp2_with fail
  go_at_call 132
  refine HPK.out.mono ?_
  rintro e W7 ⟨rfl, hb⟩
  have HZ7 := Lib.hid (HZ6.out.pure hb)
  have HT7 := Lib.hid (HT6.out.trans (To.pure Bld hb o4))
  clear hb x0 x1 x2 x3
  obtain ⟨x0, x1, x2, x3⟩ := HZ7.out.cells
  have HLN := Lib.hid (show (alignB y b.b).length + y ≤ 1048576 by
    have h2 := w_cases HF.out.w
    have h1 := alignB_len b.b (show y ≤ 8 by omega)
    have h3 := HF.out.len
    omega)
  go_wp2_with fail
  go_at_call 133
  refine (bnum_spec M.bb y q (alignB y b.b) _ o4 HZ7.out.m.buf HF.out.w HFQ.out HLQ.out HLN.out).mono ?_
  rintro e W8 ⟨rfl, o8, hB8, hT8⟩
  have HZ8 := Lib.hid (HZ7.out.buf_ hT8 hB8)
  have HT8 := Lib.hid (HT7.out.trans (hT8.mono fun _ h => bld_1 h))
  clear hB8 hT8 x0 x1 x2 x3
  obtain ⟨x0, x1, x2, x3⟩ := HZ8.out.cells
  go_upto_region 17 with fail
  have hy8 : y ≤ 8 := by have h2 := w_cases HF.out.w; omega
  have e8 : IntKind.u8.wrap (y : Int) = y := by show (y : Int) % 256 = y; omega
  have hI2 := two_bytes W8 tb y hy8
  have hcv1 := run_str (c := 2) hI2
  have hcv2 := run_str (c := 2) (w := (W8.alloc (.cells #[.int .u8 (tb.toNat : Int), .int .u8 (y : Int)] 5)).drew) hI2
  have hB9 : Below W8.heap.size W8 (((W8.alloc (.cells #[.int .u8 (tb.toNat : Int), .int .u8 (y : Int)] 5)).alloc (.cells #[.string ⟨[tb, UInt8.ofNat y].toArray⟩] 9))).drew := (below_two _ _ _).drew
  have HZ9 := Lib.hid (HZ8.out.fresh hB9)
  have HT9 := Lib.hid (HT8.out.trans (To.fresh Bld hB9 o8 0))
  have hS9 := one_str (W8.alloc (.cells #[.int .u8 (tb.toNat : Int), .int .u8 (y : Int)] 5)) [tb, UInt8.ofNat y]
  have eS : (W8.alloc (.cells #[.int .u8 (tb.toNat : Int), .int .u8 (y : Int)] 5)).heap.size = W8.heap.size + 1 := by simp
  rw [eS] at hS9
  have HS9 := Lib.hid (show IsS (((W8.alloc (.cells #[.int .u8 (tb.toNat : Int), .int .u8 (y : Int)] 5)).alloc (.cells #[.string ⟨[tb, UInt8.ofNat y].toArray⟩] 9))).drew (some ⟨W8.heap.size + 1, 0, none⟩) 1 [[tb, UInt8.ofNat y]] from hS9)
  have HO9 := Lib.hid (show ∀ ad, (some ⟨W8.heap.size + 1, 0, none⟩ : Option Addr) = some ad → newO o8 W8.heap.size 0 ad.block ≠ 1 from fun ad h => by injection h with h; subst h; rw [newO_new (by show W8.heap.size ≤ W8.heap.size + 1; omega)]; omega)
  have HL9 := Lib.hid (show (alignB y b.b ++ leBytes y q).length + [[tb, UInt8.ofNat y]].flatten.length ≤ 1048576 by
    have h1 := alignB_len b.b hy8
    have h3 := HF.out.len
    rw [List.length_append, leBytes_length]
    show _ + 2 ≤ _
    omega)
  have n0 := Nat.ne_of_lt (lt_of_cell x0)
  have n3 := Nat.ne_of_lt (lt_of_cell x3)
  simp only at n0 n3
  clear hI2 hB9 hS9 eS
  have z3 := kalloc (.cells #[.int .u8 (tb.toNat : Int), .int .u8 (y : Int)] 5) x3
  have z4 := kalloc (.cells #[.string ⟨[tb, UInt8.ofNat y].toArray⟩] 9) z3
  go_region_with (first | (go_at_call 134; (with_reducible refine (btext_spec M.bb 1 _ _ [[tb, UInt8.ofNat y]] (alignB y b.b ++ leBytes y q) _ _ HZ9.out.m.buf HS9.out HO9.out HL9.out (by omega)).mono ?_); rintro e W10 ⟨rfl, o10, hB10, hT10⟩; have HZ10 := Lib.hid (HZ9.out.buf_ hT10 hB10); have HT10 := Lib.hid (HT9.out.trans (hT10.mono fun _ h => bld_1 h)); clear hB10 hT10))
  all_goals
    have HZ10 := HZ10
    clear z3 z4 hcv1 hcv2 n0 n3
    obtain ⟨y0, y1, y2, y3⟩ := HZ10.out.cells
    have HLB := Lib.hid (show (alignB y b.b ++ leBytes y q ++ [[tb, UInt8.ofNat y]].flatten).length ≤ 1048576 by have := HL9.out; rw [List.length_append]; omega)
    go_wp2_with fail
    go_at_call 135
    refine (bbytes_spec M.bb _ _ o10 HZ10.out.m.buf HLB.out).mono ?_
    rintro e W11 ⟨A11, n11, c11, rfl, hO11, hB11⟩
    have HZ11 := Lib.hid (HZ10.out.m.fresh hB11 0)
    have HT11 := Lib.hid (HT10.out.trans (To.fresh Bld hB11 o10 0))
    have HO11 := Lib.hid hO11
    have HF11 := Lib.hid (show Of (newO o10 W10.heap.size 0) A11 0 from fun ad h => newO_new (hO11.addr ad h).2.1)
    clear y0 y1 y2 y3 hO11 hB11
    go_wp2_with fail
    go_at_call 127
    refine (fail_ok HZ11.out).mono ?_
    rintro e W12 ⟨rfl, o12, hM12, hT12⟩
    have HZ12 := Lib.hid hM12
    have HT12 := Lib.hid (HT11.out.trans hT12)
    have HO12 := Lib.hid (HO11.out.to_ HF11.out hT12 bld_0)
    have HF12 := Lib.hid (HF11.out.to_ HO11.out hT12)
    clear hM12 hT12
    go_wp2_with fail
    go_at_call 127
    refine (fail_any 140 HZ12.out).mono ?_
    rintro e W13 ⟨rfl, hT13⟩
    have HT13 := Lib.hid (HT12.out.trans (hT13.mono fun _ h => by subst h; exact ⟨by omega, by omega⟩))
    have HO13 := Lib.hid (HO12.out.to_ HF12.out hT13 (by omega))
    clear hT13
    go_wp2_with fail
    go_ret2
    refine ⟨A11, n11, c11, rfl, ?_, o12, HT13.out⟩
    have h := HO13.out.rebase (B' := w.heap.size) HT10.out.size
    have e : bTag y v = tb := by unfold bTag; rw [HOW.out, HTB.out]
    rw [HMM.out, HQ.out, e]
    exact h
end Go.Proofs.YtfoifdoaleaekaaGreat

namespace Go.Proofs.YtfoifdoaleaekaaGreat
open Go.RowKit Go.Acc
theorem alignB_le8 {w : Nat} (b : List UInt8) (hw : isW (w : Int) = true) : (alignB w b).length ≤ b.length + 8 := by
  simp only [alignB, List.length_append, List.length_replicate, padN]
  rcases w_cases hw with rfl | rfl | rfl | rfl <;> omega
theorem finok_gen {l : List UInt8} {v : Bv} (ht : legalT v.t = true) (hv : isW (v.w : Int) = true) (hf : Fit l.length v) (hl : l.length + 20 ≤ 1048576) : FinOk l v (leastW (fitsV v l.length 0)) := by
  obtain ⟨hw, hfit⟩ := leastW_is (fitsV v l.length 0) (fitsV8 hf 0)
  have hw := isW_nat.2 hw
  obtain ⟨y, hy⟩ : ∃ y, leastW (fitsV v l.length 0) = y := ⟨_, rfl⟩
  rw [hy] at hw hfit ⊢
  obtain ⟨a1, a2, a3⟩ := align_len hw l
  cases hi : inl v.t with
  | true =>
    have he : elemN y (alignB y l).length v = v.n % 2 ^ (8 * y) := by unfold elemN; rw [if_pos hi]
    exact ⟨ht, hv, hy, hw, by rw [he]; exact fits_low _ _, by rw [he]; exact low_lt _ hw, (fun h => absurd hi (by rw [h]; decide)), hl⟩
  | false =>
    obtain ⟨h1, h2⟩ := fits_off hi hfit
    have he : elemN y (alignB y l).length v = (alignB y l).length - v.n := by unfold elemN; rw [if_neg (by rw [hi]; decide)]
    have h8 := alignB_le8 l hw
    rw [Nat.zero_mul, Nat.add_zero, ← a1] at h2
    have hlt := bWidth_lt hw (by omega) h2
    exact ⟨ht, hv, hy, hw, by rw [he]; exact decide_eq_true (.inr hlt), by rw [he]; omega, fun _ => by omega, hl⟩
end Go.Proofs.YtfoifdoaleaekaaGreat

namespace Go.Proofs.YtfoifdoaleaekaaGreat
open Go.Acc
theorem docB_app (b : List UInt8) (v : Bv) (w : Nat) : ∃ m, docB b v w = b ++ m := ⟨_, by unfold docB alignB; rw [List.append_assoc, List.append_assoc]⟩
theorem doc_leads {x b : List UInt8} {v : Bv} {w : Nat} (hw : isW (w : Int) = true) (ht : legalT (v.t : Int) = true) (hv : isW (v.w : Int) = true) (hb : b.length < 2 ^ 32) (hf : fitsV v b.length 0 w = true) (hi : inlineT (v.t : Int) = false) :
    Leads (x ++ docB b v w) x.length v ((x.length + (alignB w b).length : Nat) : Int) (w : Int) := by
  have ho : ownW w v = v.w := by unfold ownW; rw [show inl v.t = false from hi]; rfl
  have hm := doc_may (x := x) (b := b) hw ht hv
  obtain ⟨_, h2⟩ := doc_target (x := x) hw ht hv hb hf
  obtain ⟨a, c, _⟩ := h2 hi
  rw [ho] at hm a c
  exact ⟨hm, a, c⟩
end Go.Proofs.YtfoifdoaleaekaaGreat

namespace Go.Proofs.YtfoifdoaleaekaaGreat
open Go.RowKit Go.Acc
theorem pnew_spec (w : World) :
    Calls Tryz.prog 103 #[] w fun e w' => ∃ b, e = .returned (.pointer (some ⟨b, 0, none⟩)) ∧ Blk w' b 216 #[.slice none 0 0, .slice none 0 0, .bool true] ∧ w.heap.size ≤ b ∧ Below w.heap.size w w' := by
  go_enter Tryz.func103, Tryz.ntmps103
  go_wp2
  go_ret
  exact ⟨_, rfl, Blk.new w _ _, Nat.le_refl _, (Below.refl _ _).alloc (Nat.le_refl _) _⟩
theorem snew_is (w : World) :
    Calls Tryz.prog 102 #[] w fun e w' => ∃ b, e = .returned (.pointer (some ⟨b, 0, none⟩)) ∧ Blk w' b 212 #[.slice none 0 0, .bool true] ∧ w.heap.size ≤ b ∧ Below w.heap.size w w' := by
  go_enter Tryz.func102, Tryz.ntmps102
  go_wp2
  go_ret
  exact ⟨_, rfl, Blk.new w _ _, Nat.le_refl _, (Below.refl _ _).alloc (Nat.le_refl _) _⟩
def newOw (o : Nat → Nat) (N bb sb kb tb lb mb β : Nat) : Nat → Nat := fun k => if k < N then o k else if k = bb then 1 else if k = sb then 3 else if k = kb then 4 else if k = tb then 5 else if k = lb then 6 else if k = mb then 7 else if k = β then 2 else 0
theorem pool_new {w : World} {o : Nat → Nat} {i p : Nat} (h : Blk w p 216 #[.slice none 0 0, .slice none 0 0, .bool true]) (ho : o p = i) : PoolO w o i p [] :=
  ⟨none, none, 0, 0, 0, [], [], h, Own.nil _ _, Own.nil _ _, Of.none_ _, Of.none_ _, ho, List.Pairwise.nil, fun _ => rfl, Nat.le_refl _, fun a h => by cases h⟩
set_option maxRecDepth 100000 in
set_option maxHeartbeats 2000000 in
theorem cnew_spec (fl : Int) (w : World) (o : Nat → Nat) :
    Calls Tryz.prog 73 #[.int .i64 fl, .int .i64 1048576] w fun e w' => ∃ M o', e = .returned (.pointer (some ⟨M.β, 0, none⟩)) ∧ BM M fl w' o' Bd.new ∧ To (fun _ => False) w o w' o' := by
  have h0 := run_makeMap (P := Tryz.prog) 159
  go_enter Tryz.func73, Tryz.ntmps73
  go_wp2_with fail
  go_at_call 101
  refine (bnew_spec _).mono ?_
  rintro e w1 ⟨bb, rfl, hb1, hl1, hB⟩
  have HB := Lib.hid hB
  have H1 := Lib.hid hb1
  have L1 := Lib.hid (And.intro hl1 hb1.lt)
  clear hB hb1 hl1
  go_wp2_with fail
  go_at_call 102
  refine (snew_is _).mono ?_
  rintro e w2 ⟨sb, rfl, hb2, hl2, hB⟩
  replace HB := Lib.hid (pure_below HB.out hB)
  have H2 := Lib.hid hb2
  replace H1 := Lib.hid (H1.out.pure hB)
  have L2 := Lib.hid (And.intro hl2 hb2.lt)
  clear hB hb2 hl2
  go_wp2_with fail
  go_at_call 103
  refine (pnew_spec _).mono ?_
  rintro e w3 ⟨kb, rfl, hb3, hl3, hB⟩
  replace HB := Lib.hid (pure_below HB.out hB)
  have H3 := Lib.hid hb3
  replace H1 := Lib.hid (H1.out.pure hB)
  replace H2 := Lib.hid (H2.out.pure hB)
  have L3 := Lib.hid (And.intro hl3 hb3.lt)
  clear hB hb3 hl3
  go_wp2_with fail
  go_at_call 103
  refine (pnew_spec _).mono ?_
  rintro e w4 ⟨tb, rfl, hb4, hl4, hB⟩
  replace HB := Lib.hid (pure_below HB.out hB)
  have H4 := Lib.hid hb4
  replace H1 := Lib.hid (H1.out.pure hB)
  replace H2 := Lib.hid (H2.out.pure hB)
  replace H3 := Lib.hid (H3.out.pure hB)
  have L4 := Lib.hid (And.intro hl4 hb4.lt)
  clear hB hb4 hl4
  go_wp2_with fail
  go_at_call 103
  refine (pnew_spec _).mono ?_
  rintro e w5 ⟨lb, rfl, hb5, hl5, hB⟩
  replace HB := Lib.hid (pure_below HB.out hB)
  have H5 := Lib.hid hb5
  replace H1 := Lib.hid (H1.out.pure hB)
  replace H2 := Lib.hid (H2.out.pure hB)
  replace H3 := Lib.hid (H3.out.pure hB)
  replace H4 := Lib.hid (H4.out.pure hB)
  have L5 := Lib.hid (And.intro hl5 hb5.lt)
  clear hB hb5 hl5
  go_wp2_with fail
  go_ret
  have hB := below_two w5 (.map #[] 0) (.cells #[.pointer (some ⟨bb, 0, none⟩), .pointer (some ⟨sb, 0, none⟩), .int .i64 0, .int .i64 fl, .pointer (some ⟨kb, 0, none⟩), .pointer (some ⟨tb, 0, none⟩), .pointer (some ⟨lb, 0, none⟩), .map (some w5.heap.size), .slice none 0 0, .bool true] 164)
  have h6 := World.ownsMap_made (H := Unit) w5 Tryz.prog 22 (plainElem Tryz.prog 9)
  have h7 := blk_new2 w5 (.map #[] 0) 164 #[.pointer (some ⟨bb, 0, none⟩), .pointer (some ⟨sb, 0, none⟩), .int .i64 0, .int .i64 fl, .pointer (some ⟨kb, 0, none⟩), .pointer (some ⟨tb, 0, none⟩), .pointer (some ⟨lb, 0, none⟩), .map (some w5.heap.size), .slice none 0 0, .bool true]
  have l1 := L1.out
  have l2 := L2.out
  have l3 := L3.out
  have l4 := L4.out
  have l5 := L5.out
  obtain ⟨N, hN⟩ : ∃ N, w5.heap.size = N := ⟨_, rfl⟩
  have e1 : newOw o w.heap.size bb sb kb tb lb N (N + 1) bb = 1 := by unfold newOw; rw [if_neg (by omega), if_pos rfl]
  have e2 : newOw o w.heap.size bb sb kb tb lb N (N + 1) sb = 3 := by unfold newOw; rw [if_neg (by omega), if_neg (by omega), if_pos rfl]
  have e3 : newOw o w.heap.size bb sb kb tb lb N (N + 1) kb = 4 := by unfold newOw; rw [if_neg (by omega), if_neg (by omega), if_neg (by omega), if_pos rfl]
  have e4 : newOw o w.heap.size bb sb kb tb lb N (N + 1) tb = 5 := by unfold newOw; rw [if_neg (by omega), if_neg (by omega), if_neg (by omega), if_neg (by omega), if_pos rfl]
  have e5 : newOw o w.heap.size bb sb kb tb lb N (N + 1) lb = 6 := by unfold newOw; rw [if_neg (by omega), if_neg (by omega), if_neg (by omega), if_neg (by omega), if_neg (by omega), if_pos rfl]
  have e6 : newOw o w.heap.size bb sb kb tb lb N (N + 1) N = 7 := by unfold newOw; rw [if_neg (by omega), if_neg (by omega), if_neg (by omega), if_neg (by omega), if_neg (by omega), if_neg (by omega), if_pos rfl]
  have e7 : newOw o w.heap.size bb sb kb tb lb N (N + 1) (N + 1) = 2 := by unfold newOw; rw [if_neg (by omega), if_neg (by omega), if_neg (by omega), if_neg (by omega), if_neg (by omega), if_neg (by omega), if_neg (by omega), if_pos rfl]
  rw [hN] at hB h6 h7 ⊢
  refine ⟨⟨N + 1, bb, sb, kb, tb, lb, N⟩, newOw o w.heap.size bb sb kb tb lb N (N + 1), rfl, ⟨⟨none, 0, 0, h7, Own.nil _ _, Of.none_ _, e7⟩, ⟨none, 0, 0, (H1.out.alloc _).alloc _, Own.nil _ _, Of.none_ _, e1⟩, ⟨none, ⟨none, 0, 0, (H2.out.alloc _).alloc _, Own.nil _ _, rfl, by omega, Nat.zero_le _⟩, e2, fun k h => by cases h⟩,
    pool_new ((H3.out.alloc _).alloc _) e3, pool_new ((H4.out.alloc _).alloc _) e4, pool_new ((H5.out.alloc _).alloc _) e5, e6, 0, .map [], h6.alloc _, Nat.le_refl _, fun a s h => by cases h⟩, ⟨Fr.of_below (pure_below HB.out (by rw [hN]; exact hB)) _, fun k hk => if_pos hk⟩⟩
end Go.Proofs.YtfoifdoaleaekaaGreat

namespace Go.Acc
open Go.RowKit Go.ChangeShapes Go.WideShapes Go.Deep

section
variable {H : Type} {enc : TypeId × Value → H} {P : Program} {W W' : World}
theorem below_arg {t : TypeId} (hl : laidOutB P = true) (hr : P.readableRec t = true) (hrow : t < P.types.size) {v : Value} {d : DataW H} {ps : List MemPlace}
    (h : DataW.Trod enc P W 0 (fun _ => true) true t v d ps) (hb : Below W.heap.size W W') : DataW.Trod enc P W' 0 (fun b => decide (b < W.heap.size)) true t v d ps :=
  Below.trod hl hr hrow h hb (by obtain ⟨m, hm⟩ := h; exact DataW.trod_lt m _ _ _ hm)

theorem i64_bd {n : Int} (h : (Lit.int .i64 n).wf = true) : -9223372036854775808 ≤ n ∧ n ≤ 9223372036854775807 := by
  simp [Lit.wf, IntKind.min, IntKind.max, IntKind.signed, IntKind.bits] at h
  exact ⟨by omega, by omega⟩
theorem u64_bd {n : Int} (h : (Lit.int .u64 n).wf = true) : 0 ≤ n ∧ n ≤ 18446744073709551615 := by
  simp [Lit.wf, IntKind.min, IntKind.max, IntKind.signed, IntKind.bits] at h
  exact ⟨by omega, by omega⟩
theorem list_of {α : Type} (p : Nat → α → Prop) (n : Nat) (h : ∀ i, i < n → ∃ x, p i x) : ∃ l : List α, l.length = n ∧ ∀ i (hi : i < l.length), p i l[i] := by
  induction n with
  | zero => exact ⟨[], rfl, fun i hi => by simp at hi⟩
  | succ n ih =>
    obtain ⟨l, hl, hp⟩ := ih fun i hi => h i (by omega)
    obtain ⟨x, hx⟩ := h n (by omega)
    refine ⟨l ++ [x], by simp [hl], fun i hi => ?_⟩
    by_cases hin : i < l.length
    · rw [List.getElem_append_left hin]; exact hp i hin
    · have : i = n := by simp at hi; omega
      subst this
      rw [List.getElem_append_right (by omega)]
      simpa [hl] using hx

theorem add_spot {w : World} {a : Addr} {u : Value} (h : w.cell? a = some u) : a = ⟨a.block, a.off, none⟩ := by
  have := spot_of_cell h
  cases a
  simp_all

theorem is_of_elems {α : Type} {f : α → List Value} {sz : Nat} (hf : ∀ x, (f x).length = sz) (hz : 0 < sz) {w : World} {a : Addr} {n : Nat} (q : α → Prop)
    (h : ∀ i, i < n → ∃ x, q x ∧ ∀ j, j < sz → w.cell? (a.add (i * sz + j)) = (f x)[j]?) : ∃ l, Is f w (some a) n l ∧ ∀ x ∈ l, q x := by
  obtain ⟨l, hl, hp⟩ := list_of _ n h
  refine ⟨l, ⟨hl, fun t u hu => ?_⟩, fun x hx => ?_⟩
  · have ht : t < n * sz := by
      have := (List.getElem?_eq_some_iff.1 hu).1
      rw [fm_length hf, hl] at this
      exact this
    have hpos : 0 < n := by
      rcases Nat.eq_zero_or_pos n with h0 | h0
      · subst h0; simp at ht
      · exact h0
    have h0 := (hp 0 (by omega)).2 0 hz
    rw [List.getElem?_eq_getElem (by rw [hf]; exact hz)] at h0
    have ha : a = ⟨a.block, a.off, none⟩ := by
      have := add_spot h0
      simpa [Addr.add] using add_spot (w := w) (a := a) (by simpa [Addr.add] using h0)
    have hi : t / sz < l.length := by rw [hl]; exact Nat.div_lt_of_lt_mul (by rw [Nat.mul_comm]; exact ht)
    have hj : t % sz < sz := Nat.mod_lt _ hz
    have e : t / sz * sz + t % sz = t := by rw [Nat.mul_comm]; exact Nat.div_add_mod t sz
    have hc := (hp _ hi).2 _ hj
    have hu' := fm_at hf l (t / sz) (t % sz) hi hj
    rw [e, hu] at hu'
    rw [e, ← hu'] at hc
    refine ⟨a.block, a.off, by rw [← ha], ?_⟩
    rw [ha, add_none] at hc
    exact hc
  · obtain ⟨i, hi, rfl⟩ := List.mem_iff_getElem.1 hx
    exact (hp i hi).1

variable {w : World} {base : Nat} {spare : Nat → Bool} {held : Bool}
end
end Go.Acc

namespace Go.Proofs.YtfoifdoaleaekaaGreat
open Go.RowKit Go.Acc
structure Nv where
  k : Int
  n : Int
  u : Nat
  s : List UInt8
  A : Option Addr
  an : Nat
  ac : Nat
  B : Option Addr
  bn : Nat
  bc : Nat
def nvc (x : Nv) : List Value := [.int .i64 x.k, .int .i64 x.n, .int .u64 (x.u : Int), .string ⟨x.s.toArray⟩, .slice x.A x.an x.ac, .slice x.B x.bn x.bc]
theorem nvc_len (x : Nv) : (nvc x).length = 6 := rfl
theorem nvc_one (x : Nv) : ∀ u ∈ nvc x, u.oneCell' = true := by
  intro u hu
  simp [nvc] at hu
  rcases hu with rfl | rfl | rfl | rfl | rfl | rfl <;> rfl
abbrev IsN := Is nvc
abbrev OwnT := Go.Acc.Own nvc 6 26
theorem isn_at {w : World} {A : Option Addr} {n : Nat} {l : List Nv} (h : IsN w A n l) {k : Nat} {x : Nv} (hx : l[k]? = some x) :
    ∃ b off, A = some ⟨b, off, none⟩ ∧ w.cell? ⟨b, off + k * 6, none⟩ = some (.int .i64 x.k) ∧ w.cell? ⟨b, off + k * 6 + 1, none⟩ = some (.int .i64 x.n) ∧ w.cell? ⟨b, off + k * 6 + 2, none⟩ = some (.int .u64 (x.u : Int)) ∧
      w.cell? ⟨b, off + k * 6 + 3, none⟩ = some (.string ⟨x.s.toArray⟩) ∧ w.cell? ⟨b, off + k * 6 + 4, none⟩ = some (.slice x.A x.an x.ac) ∧ w.cell? ⟨b, off + k * 6 + 5, none⟩ = some (.slice x.B x.bn x.bc) := by
  have hk : k < n := by rw [← h.1]; exact (List.getElem?_eq_some_iff.1 hx).1
  obtain ⟨b, off, e, hk', hc⟩ := h.at_ nvc_len (by omega) hk
  have ex : l[k] = x := (List.getElem?_eq_some_iff.1 hx).2
  rw [ex] at hc
  exact ⟨b, off, e, hc 0 (by omega), hc 1 (by omega), hc 2 (by omega), hc 3 (by omega), hc 4 (by omega), hc 5 (by omega)⟩
inductive NodeR (w : World) (p : Nat → Prop) : Nv → Tr → Prop
  | mk {x : Nv} {ks : List (List UInt8)} {l : List Tr} {vs : List Nv} (h1 : IsS w x.A x.an ks) (ha : ∀ ad, x.A = some ad → p ad.block) (hac : x.an ≤ x.ac) (hx : x.an ≤ 1099511627776)
      (h2 : IsN w x.B x.bn vs) (hb : ∀ ad, x.B = some ad → p ad.block) (hbc : x.bn ≤ x.bc) (hy : x.bn ≤ 1099511627776) (hl : vs.length = l.length)
      (hc : ∀ (i : Nat) v t, vs[i]? = some v → l[i]? = some t → NodeR w p v t) : NodeR w p x (.mk x.k x.n x.u x.s ks l)
inductive NodeO (w : World) (p : Nat → Prop) : Nat → Nv → Tr → List (Nat × Nv) → Prop
  | mk {d : Nat} {x : Nv} {ks : List (List UInt8)} {l : List Tr} {vs : List Nv} {yss : List (List (Nat × Nv))} (h1 : IsS w x.A x.an ks) (ha : ∀ ad, x.A = some ad → p ad.block) (hac : x.an ≤ x.ac) (hx : x.an ≤ 1099511627776)
      (h2 : IsN w x.B x.bn vs) (hb : ∀ ad, x.B = some ad → p ad.block) (hbc : x.bn ≤ x.bc) (hy : x.bn ≤ 1099511627776) (hl : vs.length = l.length) (hyl : yss.length = l.length)
      (hc : ∀ (i : Nat) v t ys, vs[i]? = some v → l[i]? = some t → yss[i]? = some ys → NodeO w p (d + 1) v t ys) : NodeO w p d x (.mk x.k x.n x.u x.s ks l) ((d, x) :: yss.flatten)
theorem NodeR.ord {w : World} {p : Nat → Prop} {x : Nv} {t : Tr} (h : NodeR w p x t) : ∀ d, ∃ ys, NodeO w p d x t ys := by
  induction h with
  | @mk x ks l vs h1 ha hac hx h2 hb hbc hy hl hc ih =>
    intro d
    have hex : ∀ i, i < l.length → ∃ ys, ∀ v t, vs[i]? = some v → l[i]? = some t → NodeO w p (d + 1) v t ys := by
      intro i hi
      obtain ⟨ys, hys⟩ := ih i (vs[i]'(by omega)) l[i] (List.getElem?_eq_getElem _) (List.getElem?_eq_getElem _) (d + 1)
      refine ⟨ys, fun v t hv ht => ?_⟩
      rw [List.getElem?_eq_getElem (by omega)] at hv ht
      injection hv with hv
      injection ht with ht
      rw [← hv, ← ht]
      exact hys
    obtain ⟨yss, hyl, hp⟩ := list_of _ l.length hex
    exact ⟨_, .mk h1 ha hac hx h2 hb hbc hy hl hyl (fun i v t ys hv ht hys => by
      obtain ⟨hi, e⟩ := List.getElem?_eq_some_iff.1 hys
      rw [← e]
      exact hp i hi v t hv ht)⟩
theorem rd_by {w w' : World} {p : Nat → Prop} {A : Option Addr} {xs : List Value} (h : Rd w A xs) (ha : ∀ ad, A = some ad → p ad.block) (hk : ∀ a u, w.cell? a = some u → p a.block → w'.cell? a = some u) : Rd w' A xs := by
  intro j u hu
  obtain ⟨b, off, rfl, hc⟩ := h j u hu
  exact ⟨b, off, rfl, hk _ _ hc (ha ⟨b, off, none⟩ rfl)⟩
theorem NodeR.keep {w w' : World} {p : Nat → Prop} {x : Nv} {t : Tr} (h : NodeR w p x t) (hk : ∀ a u, w.cell? a = some u → p a.block → w'.cell? a = some u) : NodeR w' p x t := by
  induction h with
  | mk h1 ha hac hx h2 hb hbc hy hl hc ih => exact .mk ⟨h1.1, rd_by h1.2 ha hk⟩ ha hac hx ⟨h2.1, rd_by h2.2 hb hk⟩ hb hbc hy hl ih
theorem NodeR.pure {w w' : World} {p : Nat → Prop} {x : Nv} {t : Tr} (h : NodeR w p x t) (hb : Below w.heap.size w w') : NodeR w' p x t := h.keep fun _ _ hc _ => cell_pure hb hc
theorem NodeR.mono {w : World} {p q : Nat → Prop} {x : Nv} {t : Tr} (h : NodeR w p x t) (hq : ∀ k, p k → q k) : NodeR w q x t := by
  induction h with
  | mk h1 ha hac hx h2 hb hbc hy hl hc ih => exact .mk h1 (fun ad h => hq _ (ha ad h)) hac hx h2 (fun ad h => hq _ (hb ad h)) hbc hy hl ih
theorem NodeR.to_ {I : Nat → Prop} {w w' : World} {o o' : Nat → Nat} {p : Nat → Prop} {x : Nv} {t : Tr} (h : NodeR w p x t) (ht : To I w o w' o') (hp : ∀ k, p k → ¬ I (o k)) : NodeR w' p x t :=
  h.keep fun _ _ hc hpa => ht.cell hc (hp _ hpa)
theorem NodeR.fields {w : World} {p : Nat → Prop} {x : Nv} {t : Tr} (h : NodeR w p x t) : t.k = x.k ∧ t.n = x.n ∧ t.u = x.u ∧ t.s = x.s ∧ t.ks.length = x.an ∧ t.l.length = x.bn := by
  cases h with
  | mk h1 ha hac hx h2 hb hbc hy hl hc => exact ⟨rfl, rfl, rfl, rfl, h1.1, by rw [← h2.1, hl]; rfl⟩
theorem NodeO.keep {w w' : World} {p : Nat → Prop} {d : Nat} {x : Nv} {t : Tr} {ys : List (Nat × Nv)} (h : NodeO w p d x t ys) (hk : ∀ a u, w.cell? a = some u → p a.block → w'.cell? a = some u) : NodeO w' p d x t ys := by
  induction h with
  | mk h1 ha hac hx h2 hb hbc hy hl hyl hc ih => exact .mk ⟨h1.1, rd_by h1.2 ha hk⟩ ha hac hx ⟨h2.1, rd_by h2.2 hb hk⟩ hb hbc hy hl hyl ih
theorem NodeO.pure {w w' : World} {p : Nat → Prop} {d : Nat} {x : Nv} {t : Tr} {ys : List (Nat × Nv)} (h : NodeO w p d x t ys) (hb : Below w.heap.size w w') : NodeO w' p d x t ys := h.keep fun _ _ hc _ => cell_pure hb hc
def Tr.pre (d : Nat) : Tr → List (Nat × Tr)
  | .mk k n u s ks l => (d, .mk k n u s ks l) :: Tr.preL (d + 1) l
where Tr.preL (d : Nat) : List Tr → List (Nat × Tr)
  | [] => []
  | t :: r => Tr.pre d t ++ Tr.preL d r
end Go.Proofs.YtfoifdoaleaekaaGreat
