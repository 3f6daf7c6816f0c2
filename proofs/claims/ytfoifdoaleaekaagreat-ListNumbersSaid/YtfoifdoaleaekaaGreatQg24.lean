/-
  Package maps: element, tag.
  Package maps: check.
-/
import Derived.Test.YtfoifdoaleaekaaGreatQg23
namespace Go.Proofs.YtfoifdoaleaekaaGreat
open Go.RowKit Go.Acc
structure MwS (b g1 g2 : Nat) (y : Int) (v : Bv) (l : List UInt8) (w : World) (o : Nat → Nat) : Prop where
  m : Buf w o b l
  x : Blk w g1 304 #[.pointer (some ⟨b, 0, none⟩), .int .i64 y]
  v : Blk w g2 185 #[.int .i64 (v.t : Int), .int .i64 (v.w : Int), .int .u64 (v.n : Int)]
section
variable {b g1 g2 : Nat} {y : Int} {v : Bv} {l : List UInt8} {w w' : World} {o : Nat → Nat}
theorem MwS.pure (h : MwS b g1 g2 y v l w o) (hb : Below w.heap.size w w') : MwS b g1 g2 y v l w' o := ⟨h.m.pure hb, h.x.pure hb, h.v.pure hb⟩
theorem MwS.cells (h : MwS b g1 g2 y v l w o) : w.cell? ⟨g1, 0, none⟩ = some (.pointer (some ⟨b, 0, none⟩)) ∧ w.cell? ⟨g1, 1, none⟩ = some (.int .i64 y) ∧ w.cell? ⟨g2, 0, none⟩ = some (.int .i64 (v.t : Int)) ∧ w.cell? ⟨g2, 1, none⟩ = some (.int .i64 (v.w : Int)) ∧ w.cell? ⟨g2, 2, none⟩ = some (.int .u64 (v.n : Int)) :=
  ⟨h.x.cell 0, h.x.cell 1, h.v.cell 0, h.v.cell 1, h.v.cell 2⟩
end
theorem low_cut64 (n : Nat) : IntKind.u64.wrap (n : Int) = ((n % 2 ^ (8 * 8) : Nat) : Int) := by
  have h := low_cut n 64 (by omega)
  simpa using h
set_option maxRecDepth 100000 in
set_option maxHeartbeats 2000000 in
theorem element_inl (b y : Nat) (v : Bv) (l : List UInt8) (w : World) (o : Nat → Nat) (h : Buf w o b l) (hy : isW (y : Int) = true) (hi : inl v.t = true) (hl : l.length + y ≤ 1048576) :
    Calls Tryz.prog 251 #[.agg #[.pointer (some ⟨b, 0, none⟩), .int .i64 (y : Int)], .agg #[.int .i64 (v.t : Int), .int .i64 (v.w : Int), .int .u64 (v.n : Int)]] w (BufTo w o b (l ++ leBytes y (v.n % 2 ^ (8 * y)))) := by
  rcases w_cases hy with rfl | rfl | rfl | rfl
  · clear hy
    have HL := Lib.hid (show IntKind.u64.wrap ((v.n : Int) * 72057594037927936) / 72057594037927936 = ((v.n % 2 ^ (8 * 1) : Nat) : Int) from low_cut v.n 8 (by omega))
    have HY := Lib.hid (show isW ((1 : Nat) : Int) = true by decide)
    have HMM := Lib.hid (rfl : l.length = l.length)
    obtain ⟨m, hm⟩ : ∃ m, l.length = m := ⟨_, rfl⟩
    replace HMM := Lib.hid hm
    have HLL := Lib.hid (show l.length + 1 ≤ 1048576 by omega)
    have HFQ := Lib.hid (fits_low v.n 1)
    have HLQ := Lib.hid (low_lt v.n (y := 1) (by decide))
    have HIV := Lib.hid (show inlineT (v.t : Int) = true from hi)
    clear hi hm hl
    have hB0 := below_two w (.cells #[.pointer (some ⟨b, 0, none⟩), .int .i64 1] 304) (.cells #[.int .i64 (v.t : Int), .int .i64 (v.w : Int), .int .u64 (v.n : Int)] 185)
    have HB0 := Lib.hid hB0
    have HS0 := Lib.hid (show MwS b w.heap.size (w.heap.size + 1) 1 v l ((w.alloc (.cells #[.pointer (some ⟨b, 0, none⟩), .int .i64 1] 304)).alloc (.cells #[.int .i64 (v.t : Int), .int .i64 (v.w : Int), .int .u64 (v.n : Int)] 185)) o from ⟨h.pure hB0, (Blk.new w 304 #[.pointer (some ⟨b, 0, none⟩), .int .i64 1]).alloc _, blk_new2 w _ _ _⟩)
    clear hB0 h
    go_enter Tryz.func251, Tryz.ntmps251
    go_wp2_with fail
    generalize (w.alloc (.cells #[.pointer (some ⟨b, 0, none⟩), .int .i64 1] 304)).alloc (.cells #[.int .i64 (v.t : Int), .int .i64 (v.w : Int), .int .u64 (v.n : Int)] 185) = w1 at HB0 HS0 ⊢
    generalize w.heap.size + 1 = g2 at HS0 ⊢
    generalize hg1 : w.heap.size = g1 at HS0 ⊢
    clear hg1
    obtain ⟨x0, x1, x2, x3, x4⟩ := HS0.out.cells
    go_region_held3 (fun w' => w'.cell? ⟨g1, 0, none⟩ = some (.pointer (some ⟨b, 0, none⟩)) ∧ w'.cell? ⟨g2, 2, none⟩ = some (.int .u64 (v.n : Int))) (first | with_reducible exact ⟨x0, x4⟩ | with_reducible exact ⟨kdrew x0, kdrew x4⟩) (first | (go_at_call 129; (with_reducible refine (blen_is m (HS0.out.pure (Below.refl _ _).drew).m HMM.out).mono ?_); rintro e w' ⟨rfl, rfl⟩))
    have HS1 := Lib.hid (HS0.out.pure (Below.refl _ _).drew)
    have HB1 := Lib.hid HB0.out.drew
    generalize w1.drew = w2 at HS1 HB1 ⊢
    clear x0 x1 x2 x3 x4 HS0 HB0
    obtain ⟨x0, x1, x2, x3, x4⟩ := HS1.out.cells
    go_wp2_with fail
    go_at_call 17
    refine (inline_spec (v.t : Int) _).mono ?_
    rw [HIV.out]
    rintro e w3 ⟨rfl, hb⟩
    have HB2 := Lib.hid (pure_below HB1.out hb)
    have HS2 := Lib.hid (HS1.out.pure hb)
    clear hb x0 x1 x2 x3 x4
    obtain ⟨x0, x1, x2, x3, x4⟩ := HS2.out.cells
    go_wp2_with fail
    rw [HL.out]
    go_at_call 133
    refine (bnum_spec b 1 (v.n % 2 ^ (8 * 1)) l _ o HS2.out.m HY.out HFQ.out HLQ.out HLL.out).mono ?_
    rintro e w4 hR
    have HR := Lib.hid (BufTo.from_pure HB2.out hR)
    obtain rfl := hR.1
    clear hR x0 x1 x2 x3 x4
    go_wp2_with fail
    go_end0
    exact HR.out
  · clear hy
    have HL := Lib.hid (show IntKind.u64.wrap ((v.n : Int) * 281474976710656) / 281474976710656 = ((v.n % 2 ^ (8 * 2) : Nat) : Int) from low_cut v.n 16 (by omega))
    have HY := Lib.hid (show isW ((2 : Nat) : Int) = true by decide)
    have HMM := Lib.hid (rfl : l.length = l.length)
    obtain ⟨m, hm⟩ : ∃ m, l.length = m := ⟨_, rfl⟩
    replace HMM := Lib.hid hm
    have HLL := Lib.hid (show l.length + 2 ≤ 1048576 by omega)
    have HFQ := Lib.hid (fits_low v.n 2)
    have HLQ := Lib.hid (low_lt v.n (y := 2) (by decide))
    have HIV := Lib.hid (show inlineT (v.t : Int) = true from hi)
    clear hi hm hl
    have hB0 := below_two w (.cells #[.pointer (some ⟨b, 0, none⟩), .int .i64 2] 304) (.cells #[.int .i64 (v.t : Int), .int .i64 (v.w : Int), .int .u64 (v.n : Int)] 185)
    have HB0 := Lib.hid hB0
    have HS0 := Lib.hid (show MwS b w.heap.size (w.heap.size + 1) 2 v l ((w.alloc (.cells #[.pointer (some ⟨b, 0, none⟩), .int .i64 2] 304)).alloc (.cells #[.int .i64 (v.t : Int), .int .i64 (v.w : Int), .int .u64 (v.n : Int)] 185)) o from ⟨h.pure hB0, (Blk.new w 304 #[.pointer (some ⟨b, 0, none⟩), .int .i64 2]).alloc _, blk_new2 w _ _ _⟩)
    clear hB0 h
    go_enter Tryz.func251, Tryz.ntmps251
    go_wp2_with fail
    generalize (w.alloc (.cells #[.pointer (some ⟨b, 0, none⟩), .int .i64 2] 304)).alloc (.cells #[.int .i64 (v.t : Int), .int .i64 (v.w : Int), .int .u64 (v.n : Int)] 185) = w1 at HB0 HS0 ⊢
    generalize w.heap.size + 1 = g2 at HS0 ⊢
    generalize hg1 : w.heap.size = g1 at HS0 ⊢
    clear hg1
    obtain ⟨x0, x1, x2, x3, x4⟩ := HS0.out.cells
    go_region_held3 (fun w' => w'.cell? ⟨g1, 0, none⟩ = some (.pointer (some ⟨b, 0, none⟩)) ∧ w'.cell? ⟨g2, 2, none⟩ = some (.int .u64 (v.n : Int))) (first | with_reducible exact ⟨x0, x4⟩ | with_reducible exact ⟨kdrew x0, kdrew x4⟩) (first | (go_at_call 129; (with_reducible refine (blen_is m (HS0.out.pure (Below.refl _ _).drew).m HMM.out).mono ?_); rintro e w' ⟨rfl, rfl⟩))
    have HS1 := Lib.hid (HS0.out.pure (Below.refl _ _).drew)
    have HB1 := Lib.hid HB0.out.drew
    generalize w1.drew = w2 at HS1 HB1 ⊢
    clear x0 x1 x2 x3 x4 HS0 HB0
    obtain ⟨x0, x1, x2, x3, x4⟩ := HS1.out.cells
    go_wp2_with fail
    go_at_call 17
    refine (inline_spec (v.t : Int) _).mono ?_
    rw [HIV.out]
    rintro e w3 ⟨rfl, hb⟩
    have HB2 := Lib.hid (pure_below HB1.out hb)
    have HS2 := Lib.hid (HS1.out.pure hb)
    clear hb x0 x1 x2 x3 x4
    obtain ⟨x0, x1, x2, x3, x4⟩ := HS2.out.cells
    go_wp2_with fail
    rw [HL.out]
    go_at_call 133
    refine (bnum_spec b 2 (v.n % 2 ^ (8 * 2)) l _ o HS2.out.m HY.out HFQ.out HLQ.out HLL.out).mono ?_
    rintro e w4 hR
    have HR := Lib.hid (BufTo.from_pure HB2.out hR)
    obtain rfl := hR.1
    clear hR x0 x1 x2 x3 x4
    go_wp2_with fail
    go_end0
    exact HR.out
  · clear hy
    have HL := Lib.hid (show IntKind.u64.wrap ((v.n : Int) * 4294967296) / 4294967296 = ((v.n % 2 ^ (8 * 4) : Nat) : Int) from low_cut v.n 32 (by omega))
    have HY := Lib.hid (show isW ((4 : Nat) : Int) = true by decide)
    have HMM := Lib.hid (rfl : l.length = l.length)
    obtain ⟨m, hm⟩ : ∃ m, l.length = m := ⟨_, rfl⟩
    replace HMM := Lib.hid hm
    have HLL := Lib.hid (show l.length + 4 ≤ 1048576 by omega)
    have HFQ := Lib.hid (fits_low v.n 4)
    have HLQ := Lib.hid (low_lt v.n (y := 4) (by decide))
    have HIV := Lib.hid (show inlineT (v.t : Int) = true from hi)
    clear hi hm hl
    have hB0 := below_two w (.cells #[.pointer (some ⟨b, 0, none⟩), .int .i64 4] 304) (.cells #[.int .i64 (v.t : Int), .int .i64 (v.w : Int), .int .u64 (v.n : Int)] 185)
    have HB0 := Lib.hid hB0
    have HS0 := Lib.hid (show MwS b w.heap.size (w.heap.size + 1) 4 v l ((w.alloc (.cells #[.pointer (some ⟨b, 0, none⟩), .int .i64 4] 304)).alloc (.cells #[.int .i64 (v.t : Int), .int .i64 (v.w : Int), .int .u64 (v.n : Int)] 185)) o from ⟨h.pure hB0, (Blk.new w 304 #[.pointer (some ⟨b, 0, none⟩), .int .i64 4]).alloc _, blk_new2 w _ _ _⟩)
    clear hB0 h
    go_enter Tryz.func251, Tryz.ntmps251
    go_wp2_with fail
    generalize (w.alloc (.cells #[.pointer (some ⟨b, 0, none⟩), .int .i64 4] 304)).alloc (.cells #[.int .i64 (v.t : Int), .int .i64 (v.w : Int), .int .u64 (v.n : Int)] 185) = w1 at HB0 HS0 ⊢
    generalize w.heap.size + 1 = g2 at HS0 ⊢
    generalize hg1 : w.heap.size = g1 at HS0 ⊢
    clear hg1
    obtain ⟨x0, x1, x2, x3, x4⟩ := HS0.out.cells
    go_region_held3 (fun w' => w'.cell? ⟨g1, 0, none⟩ = some (.pointer (some ⟨b, 0, none⟩)) ∧ w'.cell? ⟨g2, 2, none⟩ = some (.int .u64 (v.n : Int))) (first | with_reducible exact ⟨x0, x4⟩ | with_reducible exact ⟨kdrew x0, kdrew x4⟩) (first | (go_at_call 129; (with_reducible refine (blen_is m (HS0.out.pure (Below.refl _ _).drew).m HMM.out).mono ?_); rintro e w' ⟨rfl, rfl⟩))
    have HS1 := Lib.hid (HS0.out.pure (Below.refl _ _).drew)
    have HB1 := Lib.hid HB0.out.drew
    generalize w1.drew = w2 at HS1 HB1 ⊢
    clear x0 x1 x2 x3 x4 HS0 HB0
    obtain ⟨x0, x1, x2, x3, x4⟩ := HS1.out.cells
    go_wp2_with fail
    go_at_call 17
    refine (inline_spec (v.t : Int) _).mono ?_
    rw [HIV.out]
    rintro e w3 ⟨rfl, hb⟩
    have HB2 := Lib.hid (pure_below HB1.out hb)
    have HS2 := Lib.hid (HS1.out.pure hb)
    clear hb x0 x1 x2 x3 x4
    obtain ⟨x0, x1, x2, x3, x4⟩ := HS2.out.cells
    go_wp2_with fail
    rw [HL.out]
    go_at_call 133
    refine (bnum_spec b 4 (v.n % 2 ^ (8 * 4)) l _ o HS2.out.m HY.out HFQ.out HLQ.out HLL.out).mono ?_
    rintro e w4 hR
    have HR := Lib.hid (BufTo.from_pure HB2.out hR)
    obtain rfl := hR.1
    clear hR x0 x1 x2 x3 x4
    go_wp2_with fail
    go_end0
    exact HR.out
  · clear hy
    have HL := Lib.hid (low_cut64 v.n)
    have HY := Lib.hid (show isW ((8 : Nat) : Int) = true by decide)
    have HMM := Lib.hid (rfl : l.length = l.length)
    obtain ⟨m, hm⟩ : ∃ m, l.length = m := ⟨_, rfl⟩
    replace HMM := Lib.hid hm
    have HLL := Lib.hid (show l.length + 8 ≤ 1048576 by omega)
    have HFQ := Lib.hid (fits_low v.n 8)
    have HLQ := Lib.hid (low_lt v.n (y := 8) (by decide))
    have HIV := Lib.hid (show inlineT (v.t : Int) = true from hi)
    clear hi hm hl
    have hB0 := below_two w (.cells #[.pointer (some ⟨b, 0, none⟩), .int .i64 8] 304) (.cells #[.int .i64 (v.t : Int), .int .i64 (v.w : Int), .int .u64 (v.n : Int)] 185)
    have HB0 := Lib.hid hB0
    have HS0 := Lib.hid (show MwS b w.heap.size (w.heap.size + 1) 8 v l ((w.alloc (.cells #[.pointer (some ⟨b, 0, none⟩), .int .i64 8] 304)).alloc (.cells #[.int .i64 (v.t : Int), .int .i64 (v.w : Int), .int .u64 (v.n : Int)] 185)) o from ⟨h.pure hB0, (Blk.new w 304 #[.pointer (some ⟨b, 0, none⟩), .int .i64 8]).alloc _, blk_new2 w _ _ _⟩)
    clear hB0 h
    go_enter Tryz.func251, Tryz.ntmps251
    go_wp2_with fail
    generalize (w.alloc (.cells #[.pointer (some ⟨b, 0, none⟩), .int .i64 8] 304)).alloc (.cells #[.int .i64 (v.t : Int), .int .i64 (v.w : Int), .int .u64 (v.n : Int)] 185) = w1 at HB0 HS0 ⊢
    generalize w.heap.size + 1 = g2 at HS0 ⊢
    generalize hg1 : w.heap.size = g1 at HS0 ⊢
    clear hg1
    obtain ⟨x0, x1, x2, x3, x4⟩ := HS0.out.cells
    go_region_held3 (fun w' => w'.cell? ⟨g1, 0, none⟩ = some (.pointer (some ⟨b, 0, none⟩)) ∧ w'.cell? ⟨g2, 2, none⟩ = some (.int .u64 (v.n : Int))) (first | with_reducible exact ⟨x0, x4⟩ | with_reducible exact ⟨kdrew x0, kdrew x4⟩) (first | (go_at_call 129; (with_reducible refine (blen_is m (HS0.out.pure (Below.refl _ _).drew).m HMM.out).mono ?_); rintro e w' ⟨rfl, rfl⟩))
    have HS1 := Lib.hid (HS0.out.pure (Below.refl _ _).drew)
    have HB1 := Lib.hid HB0.out.drew
    generalize w1.drew = w2 at HS1 HB1 ⊢
    clear x0 x1 x2 x3 x4 HS0 HB0
    obtain ⟨x0, x1, x2, x3, x4⟩ := HS1.out.cells
    go_wp2_with fail
    go_at_call 17
    refine (inline_spec (v.t : Int) _).mono ?_
    rw [HIV.out]
    rintro e w3 ⟨rfl, hb⟩
    have HB2 := Lib.hid (pure_below HB1.out hb)
    have HS2 := Lib.hid (HS1.out.pure hb)
    clear hb x0 x1 x2 x3 x4
    obtain ⟨x0, x1, x2, x3, x4⟩ := HS2.out.cells
    go_wp2_with fail
    rw [HL.out]
    go_at_call 133
    refine (bnum_spec b 8 (v.n % 2 ^ (8 * 8)) l _ o HS2.out.m HY.out HFQ.out HLQ.out HLL.out).mono ?_
    rintro e w4 hR
    have HR := Lib.hid (BufTo.from_pure HB2.out hR)
    obtain rfl := hR.1
    clear hR x0 x1 x2 x3 x4
    go_wp2_with fail
    go_end0
    exact HR.out
set_option maxRecDepth 100000 in
set_option maxHeartbeats 2000000 in
theorem element_off (b y q m : Nat) (v : Bv) (l : List UInt8) (w : World) (o : Nat → Nat) (h : Buf w o b l) (hy : isW (y : Int) = true) (hi : inl v.t = false) (hm : l.length = m) (hle : v.n ≤ m) (hq : m - v.n = q) (hfit : q < 2 ^ (8 * y)) (hl : m + y ≤ 1048576) :
    Calls Tryz.prog 251 #[.agg #[.pointer (some ⟨b, 0, none⟩), .int .i64 (y : Int)], .agg #[.int .i64 (v.t : Int), .int .i64 (v.w : Int), .int .u64 (v.n : Int)]] w (BufTo w o b (l ++ leBytes y q)) := by
  have HY := Lib.hid hy
  have HMM := Lib.hid hm
  have HLL := Lib.hid (show l.length + y ≤ 1048576 by omega)
  have HFQ := Lib.hid (show fitsU y q = true from decide_eq_true (.inr hfit))
  have HLQ := Lib.hid (show (q : Int) < 18446744073709551616 by omega)
  have HIV := Lib.hid (show inlineT (v.t : Int) = false from hi)
  have e1 : IntKind.u64.wrap (m : Int) = m := u64_in _ (by omega)
  have e2 : (m : Int) - (v.n : Int) = q := by omega
  have e3 : IntKind.u64.wrap (q : Int) = q := u64_in _ (by omega)
  clear hy hm hfit hi hq hle hl
  have hB0 := below_two w (.cells #[.pointer (some ⟨b, 0, none⟩), .int .i64 (y : Int)] 304) (.cells #[.int .i64 (v.t : Int), .int .i64 (v.w : Int), .int .u64 (v.n : Int)] 185)
  have HB0 := Lib.hid hB0
  have HS0 := Lib.hid (show MwS b w.heap.size (w.heap.size + 1) (y : Int) v l ((w.alloc (.cells #[.pointer (some ⟨b, 0, none⟩), .int .i64 (y : Int)] 304)).alloc (.cells #[.int .i64 (v.t : Int), .int .i64 (v.w : Int), .int .u64 (v.n : Int)] 185)) o from ⟨h.pure hB0, (Blk.new w 304 #[.pointer (some ⟨b, 0, none⟩), .int .i64 (y : Int)]).alloc _, blk_new2 w _ _ _⟩)
  clear hB0 h
  go_enter Tryz.func251, Tryz.ntmps251
  go_wp2_with fail
  generalize (w.alloc (.cells #[.pointer (some ⟨b, 0, none⟩), .int .i64 (y : Int)] 304)).alloc (.cells #[.int .i64 (v.t : Int), .int .i64 (v.w : Int), .int .u64 (v.n : Int)] 185) = w1 at HB0 HS0 ⊢
  generalize w.heap.size + 1 = g2 at HS0 ⊢
  generalize hg1 : w.heap.size = g1 at HS0 ⊢
  clear hg1
  obtain ⟨x0, x1, x2, x3, x4⟩ := HS0.out.cells
  go_region_held3 (fun w' => w'.cell? ⟨g1, 0, none⟩ = some (.pointer (some ⟨b, 0, none⟩)) ∧ w'.cell? ⟨g2, 2, none⟩ = some (.int .u64 (v.n : Int))) (first | with_reducible exact ⟨x0, x4⟩ | with_reducible exact ⟨kdrew x0, kdrew x4⟩) (first | (go_at_call 129; (with_reducible refine (blen_is m (HS0.out.pure (Below.refl _ _).drew).m HMM.out).mono ?_); rintro e w' ⟨rfl, rfl⟩))
  have HS1 := Lib.hid (HS0.out.pure (Below.refl _ _).drew)
  have HB1 := Lib.hid HB0.out.drew
  generalize w1.drew = w2 at HS1 HB1 ⊢
  clear x0 x1 x2 x3 x4 e1 e2 e3 HS0 HB0
  obtain ⟨x0, x1, x2, x3, x4⟩ := HS1.out.cells
  go_wp2_with fail
  go_at_call 17
  refine (inline_spec (v.t : Int) _).mono ?_
  rw [HIV.out]
  rintro e w3 ⟨rfl, hb⟩
  have HB2 := Lib.hid (pure_below HB1.out hb)
  have HS2 := Lib.hid (HS1.out.pure hb)
  clear hb x0 x1 x2 x3 x4
  obtain ⟨x0, x1, x2, x3, x4⟩ := HS2.out.cells
  go_wp2_with fail
  go_at_call 133
  refine (bnum_spec b y q l _ o HS2.out.m HY.out HFQ.out HLQ.out HLL.out).mono ?_
  rintro e w4 hR
  have HR := Lib.hid (BufTo.from_pure HB2.out hR)
  obtain rfl := hR.1
  clear hR x0 x1 x2 x3 x4
  go_wp2_with fail
  go_end0
  exact HR.out
theorem element_spec (b y : Nat) (v : Bv) (l : List UInt8) (w : World) (o : Nat → Nat) (h : Buf w o b l) (hy : isW (y : Int) = true) (hf : inl v.t = false → v.n ≤ l.length ∧ l.length - v.n < 2 ^ (8 * y)) (hl : l.length + y ≤ 1048576) :
    Calls Tryz.prog 251 #[.agg #[.pointer (some ⟨b, 0, none⟩), .int .i64 (y : Int)], .agg #[.int .i64 (v.t : Int), .int .i64 (v.w : Int), .int .u64 (v.n : Int)]] w (BufTo w o b (l ++ leBytes y (elemN y l.length v))) := by
  cases hi : inl v.t with
  | true =>
    have e : elemN y l.length v = v.n % 2 ^ (8 * y) := by unfold elemN; rw [if_pos hi]
    rw [e]
    exact element_inl b y v l w o h hy hi hl
  | false =>
    have e : elemN y l.length v = l.length - v.n := by unfold elemN; rw [if_neg (by rw [hi]; decide)]
    rw [e]
    obtain ⟨h1, h2⟩ := hf hi
    exact element_off b y _ l.length v l w o h hy hi rfl h1 rfl h2 hl
set_option maxRecDepth 100000 in
set_option maxHeartbeats 2000000 in
theorem mtag_spec (b y : Nat) (v : Bv) (l : List UInt8) (w : World) (o : Nat → Nat) (h : Buf w o b l) (hy : isW (y : Int) = true) (hlg : legalT (v.t : Int) = true) (hww : isW (v.w : Int) = true) (hl : l.length + 1 ≤ 1048576) :
    Calls Tryz.prog 252 #[.agg #[.pointer (some ⟨b, 0, none⟩), .int .i64 (y : Int)], .agg #[.int .i64 (v.t : Int), .int .i64 (v.w : Int), .int .u64 (v.n : Int)]] w (BufTo w o b (l ++ [bTag y v])) := by
  obtain ⟨ow, how⟩ : ∃ x, (if inl v.t = true then y else v.w) = x := ⟨_, rfl⟩
  have HPW := Lib.hid (show isW (ow : Int) = true by rw [← how]; split; exact hy; exact hww)
  have HOW := Lib.hid how
  obtain ⟨tb, htb⟩ : ∃ x, UInt8.ofNat (4 * v.t + bCode ow) = x := ⟨_, rfl⟩
  have HTB := Lib.hid (show bTag y v = tb by unfold bTag; rw [how]; exact htb)
  have HPK := Lib.hid (fun W => by have h := pack_spec v.t ow W hlg HPW.out; rw [htb] at h; exact h)
  have HLL := Lib.hid hl
  obtain ⟨iv, hiv⟩ : ∃ x, inlineT (v.t : Int) = x := ⟨_, rfl⟩
  have HIV := Lib.hid hiv
  rw [HTB.out]
  clear hy hlg hww hl how htb hiv
  have hB0 := below_two w (.cells #[.pointer (some ⟨b, 0, none⟩), .int .i64 (y : Int)] 304) (.cells #[.int .i64 (v.t : Int), .int .i64 (v.w : Int), .int .u64 (v.n : Int)] 185)
  have HB0 := Lib.hid hB0
  have HS0 := Lib.hid (show MwS b w.heap.size (w.heap.size + 1) (y : Int) v l ((w.alloc (.cells #[.pointer (some ⟨b, 0, none⟩), .int .i64 (y : Int)] 304)).alloc (.cells #[.int .i64 (v.t : Int), .int .i64 (v.w : Int), .int .u64 (v.n : Int)] 185)) o from ⟨h.pure hB0, (Blk.new w 304 #[.pointer (some ⟨b, 0, none⟩), .int .i64 (y : Int)]).alloc _, blk_new2 w _ _ _⟩)
  clear hB0 h
  go_enter Tryz.func252, Tryz.ntmps252
  go_wp2_with fail
  generalize (w.alloc (.cells #[.pointer (some ⟨b, 0, none⟩), .int .i64 (y : Int)] 304)).alloc (.cells #[.int .i64 (v.t : Int), .int .i64 (v.w : Int), .int .u64 (v.n : Int)] 185) = w1 at HB0 HS0 ⊢
  generalize w.heap.size + 1 = g2 at HS0 ⊢
  generalize hg1 : w.heap.size = g1 at HS0 ⊢
  clear hg1
  obtain ⟨x0, x1, x2, x3, x4⟩ := HS0.out.cells
  go_at_call 17
  refine (inline_spec (v.t : Int) _).mono ?_
  rw [HIV.out]
  rintro e w2 ⟨rfl, hb⟩
  have HB1 := Lib.hid (pure_below HB0.out hb)
  have HS1 := Lib.hid (HS0.out.pure hb)
  clear hb x0 x1 x2 x3 x4 HS0 HB0
  obtain ⟨x0, x1, x2, x3, x4⟩ := HS1.out.cells
  cases iv with
  | true =>
    obtain rfl : y = ow := by rw [← HOW.out]; exact (if_pos HIV.out).symm
    go_wp2_with fail
    go_at_call 132
    refine (HPK.out _).mono ?_
    rintro e w3 ⟨rfl, hb⟩
    have HB2 := Lib.hid (pure_below HB1.out hb)
    have HS2 := Lib.hid (HS1.out.pure hb)
    clear hb x0 x1 x2 x3 x4
    obtain ⟨x0, x1, x2, x3, x4⟩ := HS2.out.cells
    have hcv := run_str (c := 1) (one_byte w3 tb)
    have hB9 : Below w3.heap.size w3 ((w3.alloc (.cells #[.int .u8 (tb.toNat : Int)] 5)).alloc (.cells #[.string ⟨[tb].toArray⟩] 9)) := below_two _ _ _
    have HB9 := Lib.hid (HS2.out.m.fresh hB9 0)
    have HBB := Lib.hid hB9
    have hS9 := one_str (w3.alloc (.cells #[.int .u8 (tb.toNat : Int)] 5)) [tb]
    have eS : (w3.alloc (.cells #[.int .u8 (tb.toNat : Int)] 5)).heap.size = w3.heap.size + 1 := by simp
    rw [eS] at hS9
    have HS9 := Lib.hid hS9
    have HO9 := Lib.hid (show ∀ ad, (some ⟨w3.heap.size + 1, 0, none⟩ : Option Addr) = some ad → newO o w3.heap.size 0 ad.block ≠ 1 from fun ad h => by injection h with h; subst h; rw [newO_new (by show w3.heap.size ≤ w3.heap.size + 1; omega)]; omega)
    clear hB9 hS9 eS
    go_wp2_with fail
    go_at_call 134
    refine (btext_spec b 1 _ _ [[tb]] l _ _ HB9.out HS9.out HO9.out HLL.out (by omega)).mono ?_
    rintro e w4 hR
    have HR := Lib.hid (BufTo.from_pure HB2.out (BufTo.from_fresh HBB.out hR))
    obtain rfl := hR.1
    clear hR hcv x0 x1 x2 x3 x4
    go_wp2_with fail
    go_end0
    exact HR.out
  | false =>
    obtain rfl : ow = v.w := by rw [← HOW.out]; exact if_neg (by rw [show inl v.t = false from HIV.out]; decide)
    go_wp2_with fail
    go_at_call 132
    refine (HPK.out _).mono ?_
    rintro e w3 ⟨rfl, hb⟩
    have HB2 := Lib.hid (pure_below HB1.out hb)
    have HS2 := Lib.hid (HS1.out.pure hb)
    clear hb x0 x1 x2 x3 x4
    obtain ⟨x0, x1, x2, x3, x4⟩ := HS2.out.cells
    have hcv := run_str (c := 1) (one_byte w3 tb)
    have hB9 : Below w3.heap.size w3 ((w3.alloc (.cells #[.int .u8 (tb.toNat : Int)] 5)).alloc (.cells #[.string ⟨[tb].toArray⟩] 9)) := below_two _ _ _
    have HB9 := Lib.hid (HS2.out.m.fresh hB9 0)
    have HBB := Lib.hid hB9
    have hS9 := one_str (w3.alloc (.cells #[.int .u8 (tb.toNat : Int)] 5)) [tb]
    have eS : (w3.alloc (.cells #[.int .u8 (tb.toNat : Int)] 5)).heap.size = w3.heap.size + 1 := by simp
    rw [eS] at hS9
    have HS9 := Lib.hid hS9
    have HO9 := Lib.hid (show ∀ ad, (some ⟨w3.heap.size + 1, 0, none⟩ : Option Addr) = some ad → newO o w3.heap.size 0 ad.block ≠ 1 from fun ad h => by injection h with h; subst h; rw [newO_new (by show w3.heap.size ≤ w3.heap.size + 1; omega)]; omega)
    clear hB9 hS9 eS
    go_wp2_with fail
    go_at_call 134
    refine (btext_spec b 1 _ _ [[tb]] l _ _ HB9.out HS9.out HO9.out HLL.out (by omega)).mono ?_
    rintro e w4 hR
    have HR := Lib.hid (BufTo.from_pure HB2.out (BufTo.from_fresh HBB.out hR))
    obtain rfl := hR.1
    clear hR hcv x0 x1 x2 x3 x4
    go_wp2_with fail
    go_end0
    exact HR.out
end Go.Proofs.YtfoifdoaleaekaaGreat

namespace Go.Proofs.YtfoifdoaleaekaaGreat
open Go.RowKit Go.Acc
theorem ownv_lit (W : World) (v : Bv) : OwnV (W.alloc (.cells #[.int .i64 (v.t : Int), .int .i64 (v.w : Int), .int .u64 (v.n : Int)] 185)) W.heap.size (some ⟨W.heap.size, 0, none⟩) 1 1 [vv v] := by
  refine ⟨rfl, ?_⟩
  have := World.ownsRow_lit (base := W.heap.size) (e := 185) (size := 3) W #[.int .i64 (v.t : Int), .int .i64 (v.w : Int), .int .u64 (v.n : Int)] 1 (Nat.le_refl _) (by simp only [maxLen]; omega) rfl
  exact this
set_option maxRecDepth 100000 in
set_option maxHeartbeats 2000000 in
theorem mcheck_spec (kv : Bv) (n c : Nat) (A : Option Addr) (vs : List Bv) (w : World) (hv : IsV w A n (vs.map vv)) (hn : n ≤ 1000000) (hk : kv.t = 14) (hkw : isW (kv.w : Int) = true)
    (hE : ∀ v ∈ vs, legalT (v.t : Int) = true ∧ isW (v.w : Int) = true) :
    Calls Tryz.prog 250 #[.agg #[.int .i64 (kv.t : Int), .int .i64 (kv.w : Int), .int .u64 (kv.n : Int)], .slice A n c] w fun e w' => e = .returned (.int .i64 0) ∧ Below w.heap.size w w' := by
  have hB := below_two w (.cells #[.int .i64 (kv.t : Int), .int .i64 (kv.w : Int), .int .u64 (kv.n : Int)] 185) (.cells #[.int .i64 (kv.t : Int), .int .i64 (kv.w : Int), .int .u64 (kv.n : Int)] 185)
  have HB := Lib.hid hB
  have HV := Lib.hid (hv.pure hB)
  have hown := ownv_lit (w.alloc (.cells #[.int .i64 (kv.t : Int), .int .i64 (kv.w : Int), .int .u64 (kv.n : Int)] 185)) kv
  have eS : (w.alloc (.cells #[.int .i64 (kv.t : Int), .int .i64 (kv.w : Int), .int .u64 (kv.n : Int)] 185)).heap.size = w.heap.size + 1 := by simp
  rw [eS] at hown
  have HOW := Lib.hid hown
  have HE := Lib.hid (show ∀ v ∈ kv :: vs, legalT (v.t : Int) = true ∧ isW (v.w : Int) = true from fun v h => by
    rcases List.mem_cons.1 h with rfl | h
    · exact ⟨by rw [hk]; decide, hkw⟩
    · exact hE v h)
  have hk14 : (kv.t : Int) = 14 := by omega
  have h14 : ((kv.t : Int) != 14) = false := by rw [hk14]; rfl
  clear hB hv hown eS hk hkw hE hk14
  go_enter Tryz.func250, Tryz.ntmps250
  go_wp2_with (at_builtin; refine wpl_app _ rfl (.tmp 13) (.tmp 14) _ rfl 185 _ 3 24 Tryz.underlying160 info_v rfl (by omega) vc_len vc_one _ _ _ _ _ rfl HOW.out _ _ _ _ rfl HV.out (by omega) (by simp) ?_; intro A1 c1 w1 hown1 hfr1 hat1)
  have HI := Lib.hid (show IsV w1 A1 (1 + n) ((kv :: vs).map vv) from hown1.is)
  have HB1 := Lib.hid (HB.out.trans (hfr1.belowB (fun k hk ⟨ad, h, h'⟩ => by injection h with h; subst h; have h2 : k = w.heap.size + 1 := h'; omega) (by have := HB.out.size; omega)))
  clear hown1 hfr1 hat1
  go_loopw [17] (fun u wr => ∃ k : Nat, k ≤ 1 + n ∧ u = .int .i64 k ∧ Below w1.heap.size w1 wr) (fun u _ => 1 + n - (intOf u).toNat)
  case atStart => exact ⟨0, Nat.zero_le _, rfl, Below.refl _ _⟩
  case round =>
    obtain ⟨k, hk, rfl, hbr⟩ := hrel
    have HBR := Lib.hid hbr
    have HIR := Lib.hid (HI.out.pure hbr)
    clear hbr
    by_cases hlt : k < 1 + n
    · obtain ⟨g, off, v, rfl, hvk, h0, h1, h2⟩ := isv_bv HIR.out hlt
      have HVE := Lib.hid (HE.out v (List.mem_of_getElem? hvk))
      have hk0 : (0 : Int) ≤ (k : Int) := by omega
      have hkn : (k : Int) < 1 + (n : Int) := by omega
      have hkn2 : (k : Int) < ((1 + n : Nat) : Int) := by omega
      have HBA := Lib.hid (HBR.out.alloc HBR.out.size (.cells #[.int .i64 (v.t : Int), .int .i64 (v.w : Int), .int .u64 (v.n : Int)] 185))
      have HXA := Lib.hid (Blk.new wr 185 #[.int .i64 (v.t : Int), .int .i64 (v.w : Int), .int .u64 (v.n : Int)])
      obtain ⟨z, hz⟩ : ∃ z, decide ((0 : Int) < (k : Int)) = z := ⟨_, rfl⟩
      have hz' : decide (0 < k) = z := by rw [← hz]; exact decide_eq_decide.2 (by omega)
      obtain ⟨iv, hiv⟩ : ∃ x, inlineT (v.t : Int) = x := ⟨_, rfl⟩
      have HIV := Lib.hid hiv
      clear hvk hiv
      cases z with
      | true =>
        go_wp2_with fail
        go_at_call 84
        refine (wcode_spec (v.w : Int) _ HVE.out.2).mono ?_
        rintro e w' ⟨⟨cc, rfl⟩, rfl⟩
        go_wp2_with fail
        go_at_call 44
        refine (legal_spec (v.t : Int) _).mono ?_
        rw [HVE.out.1]
        rintro e w3 ⟨rfl, hb⟩
        have HB3 := Lib.hid (pure_below HBA.out hb)
        have HX3 := Lib.hid (HXA.out.pure hb)
        have x0 : w3.cell? ⟨wr.heap.size, 0, none⟩ = some (.int .i64 (v.t : Int)) := HX3.out.cell 0
        clear hb
        go_wp2_with fail
        go_at_call 17
        refine (inline_spec (v.t : Int) _).mono ?_
        rw [HIV.out]
        rintro e w4 ⟨rfl, hb⟩
        have HB4 := Lib.hid (pure_below HB3.out hb)
        clear hb x0
        cases iv with
        | true =>
          go_wp2_with fail
          go_roundw
          case rel => exact ⟨k + 1, by omega, by go_num, HB4.out⟩
          case measure => simp [intOf]; omega
        | false =>
          go_wp2_with fail
          go_roundw
          case rel => exact ⟨k + 1, by omega, by go_num, HB4.out⟩
          case measure => simp [intOf]; omega
      | false =>
        go_wp2_with fail
        go_at_call 84
        refine (wcode_spec (v.w : Int) _ HVE.out.2).mono ?_
        rintro e w' ⟨⟨cc, rfl⟩, rfl⟩
        have HB3 := HBA
        have HX3 := HXA
        have x0 : _ = some (Value.int .i64 (v.t : Int)) := HX3.out.cell 0
        go_wp2_with fail
        go_at_call 17
        refine (inline_spec (v.t : Int) _).mono ?_
        rw [HIV.out]
        rintro e w4 ⟨rfl, hb⟩
        have HB4 := Lib.hid (pure_below HB3.out hb)
        clear hb x0
        cases iv with
        | true =>
          go_wp2_with fail
          go_roundw
          case rel => exact ⟨k + 1, by omega, by go_num, HB4.out⟩
          case measure => simp [intOf]; omega
        | false =>
          go_wp2_with fail
          go_roundw
          case rel => exact ⟨k + 1, by omega, by go_num, HB4.out⟩
          case measure => simp [intOf]; omega
    · have hd1 : decide ((k : Int) < ((1 + n : Nat) : Int)) = false := decide_eq_false (by omega)
      have hd3 : decide ((k : Int) < 1 + (n : Int)) = false := decide_eq_false (by omega)
      have hd2 : decide (k < 1 + n) = false := decide_eq_false (by omega)
      go_wp2_with fail
      go_ret
      exact ⟨rfl, pure_below HB1.out HBR.out⟩
end Go.Proofs.YtfoifdoaleaekaaGreat
