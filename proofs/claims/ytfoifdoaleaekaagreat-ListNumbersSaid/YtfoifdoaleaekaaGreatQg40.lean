/-
  Package build: table.
  strings.Builder, from the library: WriteString and String.
-/
import Derived.Test.YtfoifdoaleaekaaGreatQg39
import Derived.Shelf.Strings.BuilderK
import Derived.Ground.NamesProg
namespace Go.Proofs.YtfoifdoaleaekaaGreat
open Go.RowKit Go.Acc
theorem bld_6 {i : Nat} (h : i = 6) : Bld i := by subst h; exact ⟨by omega, by omega⟩
theorem bld_28 {i : Nat} (h : i = 2 ∨ i = 8) : Bld i := by rcases h with rfl | rfl <;> exact ⟨by omega, by omega⟩
structure TbC (M : Bp) (A : Option Addr) (n c : Nat) (vs : List Bv) (bx bv bi i : Nat) (w : World) (o : Nat → Nat) : Prop where
  x : Blk w bx 122 #[.pointer (some ⟨M.β, 0, none⟩)]
  v : Blk w bv 160 #[.slice A n c]
  i : Blk w bi 3 #[.int .i64 (i : Int)]
  ox : o bx = 0
  ov : o bv = 0
  oi : o bi = 9
  iv : IsV w A n (vs.map vv)
  oa : ∀ ad, A = some ad → ad.block < w.heap.size ∧ o ad.block = 0
section
variable {M : Bp} {A : Option Addr} {n c : Nat} {vs : List Bv} {bx bv bi i : Nat} {w w' : World} {o o' : Nat → Nat}
theorem TbC.to_ {I : Nat → Prop} (h : TbC M A n c vs bx bv bi i w o) (ht : To I w o w' o') (h0 : ¬ I 0) (h9 : ¬ I 9) : TbC M A n c vs bx bv bi i w' o' :=
  ⟨h.x.to_ ht (by rw [h.ox]; exact h0), h.v.to_ ht (by rw [h.ov]; exact h0), h.i.to_ ht (by rw [h.oi]; exact h9), (ht.ow _ h.x.lt).trans h.ox, (ht.ow _ h.v.lt).trans h.ov, (ht.ow _ h.i.lt).trans h.oi,
    h.iv.fr ht.fr (fun ad e => by rw [(h.oa ad e).2]; exact h0), fun ad e => ⟨Nat.lt_of_lt_of_le (h.oa ad e).1 ht.size, (ht.ow _ (h.oa ad e).1).trans (h.oa ad e).2⟩⟩
theorem TbC.set (h : TbC M A n c vs bx bv bi i w o) (j : Nat) : TbC M A n c vs bx bv bi j (w.setCell ⟨bi, 0, none⟩ (.int .i64 (j : Int))) o := by
  have ht := to_own9 (w := w) (p := ⟨bi, 0, none⟩) h.oi (.int .i64 (j : Int))
  exact ⟨h.x.to_ ht (by rw [h.ox]; decide), h.v.to_ ht (by rw [h.ov]; decide), h.i.set_ 0 _, h.ox, h.ov, h.oi, h.iv.fr ht.fr (fun ad e => by rw [(h.oa ad e).2]; decide), fun ad e => ⟨Nat.lt_of_lt_of_le (h.oa ad e).1 ht.size, (h.oa ad e).2⟩⟩
theorem TbC.cells (h : TbC M A n c vs bx bv bi i w o) : w.cell? ⟨bx, 0, none⟩ = some (.pointer (some ⟨M.β, 0, none⟩)) ∧ w.cell? ⟨bv, 0, none⟩ = some (.slice A n c) ∧ w.cell? ⟨bi, 0, none⟩ = some (.int .i64 (i : Int)) := ⟨h.x.cell 0, h.v.cell 0, h.i.cell 0⟩
end
theorem nb9 : ¬ Bld 9 := by rintro ⟨h1, h2⟩; omega
set_option maxRecDepth 100000 in
set_option maxHeartbeats 4000000 in
theorem table_spec (M : Bp) (fl : Int) (b : Bd) (list : List UInt8) (AK : Option Addr) (nk ck : Nat) (ks : List Bv) (A : Option Addr) (n c : Nat) (vs : List Bv) (w : World) (o : Nat → Nat) (h : BM M fl w o b)
    (hK : IsV w AK nk (ks.map vv)) (hKo : ∀ ad, AK = some ad → ad.block < w.heap.size ∧ o ad.block = 0) (hv : IsV w A n (vs.map vv)) (ho : ∀ ad, A = some ad → ad.block < w.heap.size ∧ o ad.block = 0) (hT : TabOk list ks vs b) :
    Calls Tryz.prog 178 #[.pointer (some ⟨M.β, 0, none⟩), .string ⟨list.toArray⟩, .slice AK nk ck, .slice A n c] w (BTo M fl (Bd.table (Go.Proofs.YtfoifdoaleaekaaGreat.bits fl) list ks vs b) w o) := by
  obtain ⟨g, hg⟩ : ∃ g, getP b.lists list = g := ⟨_, rfl⟩
  obtain ⟨q, hq⟩ : ∃ q, onF (Go.Proofs.YtfoifdoaleaekaaGreat.bits fl) 4 = q := ⟨_, rfl⟩
  have HE := Lib.hid (table_eq (Go.Proofs.YtfoifdoaleaekaaGreat.bits fl) list ks vs b g q hg hq)
  have HQ := Lib.hid hq
  obtain ⟨gv, hgv⟩ : ∃ v, g.getD 0 = v := ⟨_, rfl⟩
  obtain ⟨had, hhad⟩ : ∃ v, g.isSome = v := ⟨_, rfl⟩
  have HG := Lib.hid (show optN (getP b.lists list) = .tuple #[.int .i64 (gv : Int), .bool had] by rw [hg]; unfold optN; rw [hgv, hhad])
  have HGV := Lib.hid (And.intro hgv hhad)
  have HO := Lib.hid hT
  have HAD := Lib.hid (fun i => (hg ▸ hT.had i : g = some i → _))
  have HLL := Lib.hid (show b.lists.length ≤ 1048576 by have := hT.ll; omega)
  obtain ⟨y, hy⟩ : ∃ y, bVec 14 true false ks b.b = y := ⟨_, rfl⟩
  have HY := Lib.hid hy
  obtain ⟨yb, kv⟩ := y
  have hB : Below w.heap.size w ((w.alloc (.cells #[.pointer (some ⟨M.β, 0, none⟩)] 122)).alloc (.cells #[.slice A n c] 160)) := below_two w _ _
  have HM1 := Lib.hid (h.fresh hB 0)
  have HT1 := Lib.hid (To.fresh Bld hB o 0)
  have HK1 := Lib.hid (And.intro (hK.pure hB) (fun ad e => ⟨Nat.lt_of_lt_of_le (hKo ad e).1 hB.size, (newO_old (hKo ad e).1).trans (hKo ad e).2⟩ : ∀ ad, AK = some ad → ad.block < _ ∧ newO o w.heap.size 0 ad.block = 0))
  have HC1 := Lib.hid (show Blk ((w.alloc (.cells #[.pointer (some ⟨M.β, 0, none⟩)] 122)).alloc (.cells #[.slice A n c] 160)) w.heap.size 122 #[.pointer (some ⟨M.β, 0, none⟩)] ∧ Blk ((w.alloc (.cells #[.pointer (some ⟨M.β, 0, none⟩)] 122)).alloc (.cells #[.slice A n c] 160)) (w.heap.size + 1) 160 #[.slice A n c] ∧ newO o w.heap.size 0 w.heap.size = 0 ∧ newO o w.heap.size 0 (w.heap.size + 1) = 0 ∧ IsV ((w.alloc (.cells #[.pointer (some ⟨M.β, 0, none⟩)] 122)).alloc (.cells #[.slice A n c] 160)) A n (vs.map vv) ∧ (∀ ad, A = some ad → ad.block < ((w.alloc (.cells #[.pointer (some ⟨M.β, 0, none⟩)] 122)).alloc (.cells #[.slice A n c] 160)).heap.size ∧ newO o w.heap.size 0 ad.block = 0) from
    ⟨(Blk.new w 122 #[.pointer (some ⟨M.β, 0, none⟩)]).alloc _, blk_new2 w _ 160 #[.slice A n c], newO_new (Nat.le_refl _), newO_new (by omega), hv.pure hB, fun ad e => ⟨Nat.lt_of_lt_of_le (ho ad e).1 hB.size, (newO_old (ho ad e).1).trans (ho ad e).2⟩⟩)
  clear h hK hKo hv ho hT hg hq hgv hhad hy hB
  go_enter Tryz.func178, Tryz.ntmps178
  go_upto_region 1 with fail
  generalize (w.alloc (.cells #[.pointer (some ⟨M.β, 0, none⟩)] 122)).alloc (.cells #[.slice A n c] 160) = w1 at HM1 HT1 HK1 HC1 ⊢
  generalize newO o w.heap.size 0 = o1 at HM1 HT1 HK1 HC1
  generalize w.heap.size + 1 = bv at HC1 ⊢
  generalize w.heap.size = bx at HC1 ⊢
  have x0 : w1.cell? ⟨bx, 0, none⟩ = some (.pointer (some ⟨M.β, 0, none⟩)) := HC1.out.1.cell 0
  obtain ⟨_, _, _, _, b6, _⟩ := head_tb HM1.out.head
  go_wp2_with fail
  go_at_call 217
  refine (pget_spec 6 M.lb b.lists list _ o1 HM1.out.lists HLL.out).mono ?_
  rintro e w2 ⟨rfl, hB⟩
  rw [HG.out]
  have HBI := Lib.hid (Nat.le_trans HT1.out.size hB.size)
  have hal := (Below.refl w2.heap.size w2).alloc (Nat.le_refl _) (.cells #[.int .i64 (gv : Int)] 3)
  have hB3 := pure_below hB hal
  have HM3 := Lib.hid (HM1.out.fresh hB3 9)
  have HT3 := Lib.hid (HT1.out.trans (To.fresh Bld hB3 o1 9))
  have HK3 := Lib.hid (And.intro (HK1.out.1.pure hB3) (fun ad e => ⟨Nat.lt_of_lt_of_le (HK1.out.2 ad e).1 hB3.size, (newO_old (HK1.out.2 ad e).1).trans (HK1.out.2 ad e).2⟩ : ∀ ad, AK = some ad → ad.block < _ ∧ newO o1 w1.heap.size 9 ad.block = 0))
  have HC3 := Lib.hid (show TbC M A n c vs bx bv w2.heap.size gv (w2.alloc (.cells #[.int .i64 (gv : Int)] 3)) (newO o1 w1.heap.size 9) from
    ⟨HC1.out.1.pure hB3, HC1.out.2.1.pure hB3, Blk.new _ _ _, (newO_old HC1.out.1.lt).trans HC1.out.2.2.1, (newO_old HC1.out.2.1.lt).trans HC1.out.2.2.2.1, newO_new hB.size, HC1.out.2.2.2.2.1.pure hB3, fun ad e => ⟨Nat.lt_of_lt_of_le (HC1.out.2.2.2.2.2 ad e).1 hB3.size, (newO_old (HC1.out.2.2.2.2.2 ad e).1).trans (HC1.out.2.2.2.2.2 ad e).2⟩⟩)
  clear hB hal hB3 x0 b6
  go_upto_region 2 with fail
  generalize w2.alloc (.cells #[.int .i64 (gv : Int)] 3) = w3 at HM3 HT3 HK3 HC3 ⊢
  generalize newO o1 w1.heap.size 9 = o3 at HM3 HT3 HK3 HC3
  generalize w2.heap.size = bi at HC3 HBI ⊢
  obtain ⟨b0, b3, _⟩ := head_tb HM3.out.head
  obtain ⟨x0, x1, x2⟩ := HC3.out.cells
  obtain ⟨hg, hgh⟩ := HGV.out
  cases g with
  | none =>
    obtain rfl : had = false := by rw [← hgh]; rfl
    have HP := Lib.hid (show (if q = true then (none : Option Nat) else none) = none by split <;> rfl)
    clear hg hgh
    have HCI := Lib.hid HC3.out
    obtain ⟨b0, _, _, _, b6, _⟩ := head_tb HM3.out.head
    obtain ⟨x0, x1, x2⟩ := HC3.out.cells
    go_wp2_with fail
    go_at_call 224
    refine (mkeys_spec M.bb nk ck AK ks b.b _ o3 HM3.out.buf HK3.out.1 (fun ad e => ⟨(HK3.out.2 ad e).1, by rw [(HK3.out.2 ad e).2]; omega⟩) HO.out.kok HO.out.kel).mono ?_
    rintro e w4 ⟨rfl, o4, hB4, hT4⟩
    have HM4 := Lib.hid (HM3.out.buf_ hT4 hB4)
    have HC4 := Lib.hid (HC3.out.to_ hT4 (by omega) (by omega))
    have HT4 := Lib.hid (HT3.out.trans (hT4.mono fun _ h => bld_1 h))
    clear hB4 hT4 b0 b6 x0 x1 x2
    rw [HY.out] at HM4 ⊢
    obtain ⟨x0, x1, x2⟩ := HC4.out.cells
    have hal := (Below.refl w4.heap.size w4).alloc (Nat.le_refl _) (.cells #[.int .i64 (kv.t : Int), .int .i64 (kv.w : Int), .int .u64 (kv.n : Int)] 185)
    have HM5 := Lib.hid (HM4.out.fresh hal 0)
    have HC5 := Lib.hid (HC4.out.to_ (To.fresh Bld hal o4 0) bld_0 nb9)
    have HT5 := Lib.hid (HT4.out.trans (To.fresh Bld hal o4 0))
    have HX5 := Lib.hid (Blk.new w4 185 #[.int .i64 (kv.t : Int), .int .i64 (kv.w : Int), .int .u64 (kv.n : Int)])
    have HO5 := Lib.hid (show newO o4 w4.heap.size 0 w4.heap.size = 0 from newO_new (Nat.le_refl _))
    have HLT := Lib.hid hal
    clear hal
    go_upto_region 4 with fail
    generalize w4.alloc (.cells #[.int .i64 (kv.t : Int), .int .i64 (kv.w : Int), .int .u64 (kv.n : Int)] 185) = w5 at HM5 HC5 HT5 HX5 ⊢
    generalize newO o4 w4.heap.size 0 = o5 at HM5 HC5 HT5 HO5
    generalize w4.heap.size = bk at HX5 HO5 ⊢
    clear x0 x1 x2
    obtain ⟨x0, x1, x2⟩ := HC5.out.cells
    go_wp2_with fail
    go_at_call 127
    refine (fail_ok HM5.out).mono ?_
    rintro e w6 ⟨rfl, o6, hM6, hT6⟩
    have HM6 := Lib.hid hM6
    have HC6 := Lib.hid (HC5.out.to_ hT6 bld_0 nb9)
    have HX6 := Lib.hid (HX5.out.to_ hT6 (by rw [HO5.out]; exact bld_0))
    have HO6 := Lib.hid (show o6 bk = 0 from (hT6.ow _ HX5.out.lt).trans HO5.out)
    have HT6 := Lib.hid (HT5.out.trans hT6)
    clear hM6 hT6 x0 x1 x2
    obtain ⟨x0, x1, x2⟩ := HC6.out.cells
    obtain ⟨A8, m8, c8, hb8, ho8, hof8, hoβ⟩ := HM6.out.head
    have hm8 : b.vals.length = m8 := by have := ho8.is.1; simpa using this
    have hm8l : m8 ≤ 1048576 := by have := HO.out.vl; omega
    have y8 : w6.cell? ⟨M.β, 8, none⟩ = some (.slice A8 m8 c8) := hb8.cell 8
    have fi : w6.frozen? ⟨bi, 0, none⟩ = false := HC6.out.i.frozen 0
    have HT8 := Lib.hid (HT6.out.set_new (p := ⟨bi, 0, none⟩) HBI.out (.int .i64 (m8 : Int)))
    have HC7 := Lib.hid (HC6.out.set m8)
    have HM7 := Lib.hid (HM6.out.to_ (to_own9 (p := ⟨bi, 0, none⟩) HC6.out.oi (.int .i64 (m8 : Int))) bld_9)
    have HX7 := Lib.hid (HX6.out.to_ (to_own9 (p := ⟨bi, 0, none⟩) HC6.out.oi (.int .i64 (m8 : Int))) (by rw [HO6.out]; decide))
    go_upto_region 6 with fail
    generalize w6.setCell ⟨bi, 0, none⟩ (.int .i64 (m8 : Int)) = w7 at HC7 HM7 HX7 HT8 ⊢
    clear hb8 ho8 hof8 hoβ x0 x1 x2 y8 fi
    obtain ⟨x0, x1, x2⟩ := HC7.out.cells
    obtain ⟨_, _, _, _, b6, _⟩ := head_tb HM7.out.head
    go_region_held3 (fun w' => w'.cell? ⟨bx, 0, none⟩ = some (.pointer (some ⟨M.β, 0, none⟩)) ∧ w'.cell? ⟨M.β, 6, none⟩ = some (.pointer (some ⟨M.lb, 0, none⟩)) ∧ w'.cell? ⟨bi, 0, none⟩ = some (.int .i64 (m8 : Int))) (first | with_reducible exact ⟨x0, b6, x2⟩ | with_reducible exact ⟨kdrew x0, kdrew b6, kdrew x2⟩ | with_reducible exact ⟨y0, y6, y2⟩) (first | (go_at_call 219; (with_reducible refine (pput_spec 6 M.lb b.lists list m8 _ o6 HM7.out.drew.lists HO.out.ll hm8l).mono ?_); rintro e w8 ⟨⟨x, rfl⟩, o8, hB8, hT8⟩; have hT8' := hT8.from_drew; have hC8 := HC7.out.to_ hT8' (by omega) (by omega); obtain ⟨y0, _, y2⟩ := hC8.cells; have hM8 := HM7.out.lists_ hT8' hB8; obtain ⟨_, _, _, _, y6, _⟩ := head_tb hM8.head; have HM8 := Lib.hid hM8; have HC8 := Lib.hid hC8; have HX8 := Lib.hid (HX7.out.to_ hT8' (by rw [HO6.out]; omega)); have HO8 := Lib.hid (show o8 bk = 0 from (hT8'.ow _ HX7.out.lt).trans HO6.out); have HT9 := Lib.hid (HT8.out.trans (hT8'.mono fun _ h => bld_6 h)); clear hB8 hT8 hT8' hC8 hM8))
    clear x0 x1 x2 b6
    obtain ⟨A9, m9, c9, hb9, ho9, hof9, hoβ9⟩ := HM8.out.head
    obtain rfl : m9 = m8 := by have := ho9.is.1; rw [← hm8]; simpa using this.symm
    have k0 : w8.cell? ⟨bk, 0, none⟩ = some (.int .i64 (kv.t : Int)) := HX8.out.cell 0
    have k1 : w8.cell? ⟨bk, 1, none⟩ = some (.int .i64 (kv.w : Int)) := HX8.out.cell 1
    have k2 : w8.cell? ⟨bk, 2, none⟩ = some (.int .u64 (kv.n : Int)) := HX8.out.cell 2
    have y8 : w8.cell? ⟨M.β, 8, none⟩ = some (.slice A9 m9 c9) := hb9.cell 8
    have hW0 : Below w8.heap.size w8 (w8.alloc (.cells #[.int .i64 (kv.t : Int), .int .i64 (kv.w : Int), .int .u64 (kv.n : Int)] 185)).drew := ((Below.refl _ _).alloc (Nat.le_refl _) _).drew
    have HW0 := Lib.hid hW0
    have HLI := Lib.hid (show IsV (w8.alloc (.cells #[.int .i64 (kv.t : Int), .int .i64 (kv.w : Int), .int .u64 (kv.n : Int)] 185)).drew (some ⟨w8.heap.size, 0, none⟩) 1 [vv kv] from (isv_lit w8 kv).pure (Below.refl _ _).drew)
    have HOW := Lib.hid (ho9.pure hW0)
    have HB9 := Lib.hid hb9
    have HO9 := Lib.hid ho9
    have HOF9 := Lib.hid hof9
    have HOB9 := Lib.hid hoβ9
    have j0 : (w8.alloc (.cells #[.int .i64 (kv.t : Int), .int .i64 (kv.w : Int), .int .u64 (kv.n : Int)] 185)).cell? ⟨bx, 0, none⟩ = some (.pointer (some ⟨M.β, 0, none⟩)) := cell_al _ y0
    have j8 : (w8.alloc (.cells #[.int .i64 (kv.t : Int), .int .i64 (kv.w : Int), .int .u64 (kv.n : Int)] 185)).cell? ⟨M.β, 8, none⟩ = some (.slice A9 m9 c9) := cell_al _ y8
    have jk0 : (w8.alloc (.cells #[.int .i64 (kv.t : Int), .int .i64 (kv.w : Int), .int .u64 (kv.n : Int)] 185)).cell? ⟨bk, 0, none⟩ = some (.int .i64 (kv.t : Int)) := cell_al _ k0
    have jk1 : (w8.alloc (.cells #[.int .i64 (kv.t : Int), .int .i64 (kv.w : Int), .int .u64 (kv.n : Int)] 185)).cell? ⟨bk, 1, none⟩ = some (.int .i64 (kv.w : Int)) := cell_al _ k1
    have jk2 : (w8.alloc (.cells #[.int .i64 (kv.t : Int), .int .i64 (kv.w : Int), .int .u64 (kv.n : Int)] 185)).cell? ⟨bk, 2, none⟩ = some (.int .u64 (kv.n : Int)) := cell_al _ k2
    clear hb9 ho9 hof9 hoβ9 hW0
    go_wp2_with fail
    go_cut [] (fun wx => ∃ wy, wy = wx ∧ ∃ oA, BM M fl wx oA { b with b := yb, vals := b.vals ++ [kv], lists := putP b.lists list m9 } ∧ TbC M A n c vs bx bv bi m9 wx oA ∧ To Bld w o wx oA)
    case first =>
      go_region_law (refine step_appV rfl (.tmp 65) (.tmp 67) rfl 0 A9 m9 c9 (b.vals.map vv) rfl HOW.out _ 1 1 [vv kv] rfl HLI.out (by omega) (Nat.zero_le _) ?_; intro AA ca W1 hown hfr hat; have hh := head_app HB9.out HO9.out HOF9.out HOB9.out HW0.out hown hfr hat; have hbx := (HC8.out.x.pure HW0.out).fr hfr (by rintro ⟨ad, e, h⟩; have h1 := HOF9.out ad e; rw [← h, HC8.out.ox] at h1; omega); have hbb := (HB9.out.pure HW0.out).fr hfr (by rintro ⟨ad, e, h⟩; have h1 := HOF9.out ad e; rw [← h, HOB9.out] at h1; omega); have z0 : W1.cell? ⟨bx, 0, none⟩ = some (.pointer (some ⟨M.β, 0, none⟩)) := hbx.cell 0; have z8 : W1.cell? ⟨M.β, 8, none⟩ = some (.slice A9 m9 c9) := hbb.cell 8; have f8 : W1.frozen? ⟨M.β, 8, none⟩ = false := hbb.frozen 8; have hk := (HX8.out.pure HW0.out).fr hfr (by rintro ⟨ad, e, h⟩; have h1 := HOF9.out ad e; rw [← h, HO8.out] at h1; omega); have z1 : W1.cell? ⟨bk, 0, none⟩ = some (.int .i64 (kv.t : Int)) := hk.cell 0; have z2 : W1.cell? ⟨bk, 1, none⟩ = some (.int .i64 (kv.w : Int)) := hk.cell 1; have z3 : W1.cell? ⟨bk, 2, none⟩ = some (.int .u64 (kv.n : Int)) := hk.cell 2; have HH := Lib.hid hh; clear hown hfr hat hh hbx hbb hk)
      all_goals
        go_wp2_with fail
        go_meet
        exact ⟨_, rfl, _, HM8.out.head_ HH.out.2 HH.out.1, HC8.out.to_ HH.out.2 (by omega) (by omega), HT9.out.trans (HH.out.2.mono fun _ h => bld_28 h)⟩
    case rest =>
      obtain ⟨wA, rfl, oA, hMA, hCA, hTA⟩ := hcut
      have HMA := Lib.hid hMA
      have HCA := Lib.hid hCA
      have HTA := Lib.hid hTA
      have HF := Lib.hid (show (b.vals ++ [kv])[m9]? = some kv ∧ b.s.length < 65536 ∧ VecOk vs yb ∧ kv.t = 14 ∧ isW (kv.w : Int) = true ∧ Fit yb.length kv from
        ⟨by rw [List.getElem?_append_right (by omega), hm8, Nat.sub_self]; rfl, HO.out.st, by have h := HO.out.vok2; rw [HY.out] at h; exact h, by have h := HY.out; unfold bVec at h; injection h with _ h; rw [← h], by have h := HO.out.kw; rw [HY.out] at h; exact h, by have h := HO.out.kfit; rw [HY.out] at h; exact h⟩)
      clear hMA hCA hTA y0 y2 y6 y8 k0 k1 k2 j0 j8 jk0 jk1 jk2
      obtain ⟨x0, _, _⟩ := HCA.out.cells
      go_wp2_with fail
      go_at_call 163
      refine (unless_spec M fl 225 _ _ _ ({ b with b := yb, vals := b.vals ++ [kv], lists := putP b.lists list m9 }).vals _ HMA.out.head Tryz.call225 ((table1_spec M fl ({ b with b := yb, vals := b.vals ++ [kv], lists := putP b.lists list m9 }) kv m9 bx bi bv A n c vs wA _ HMA.out HCA.out.x HCA.out.i HCA.out.v HCA.out.ox (by rw [HCA.out.oi]; decide) HCA.out.ov HCA.out.iv HCA.out.oa HF.out.1 HF.out.2.1 HF.out.2.2.1 HF.out.2.2.2.1 HF.out.2.2.2.2.1 HF.out.2.2.2.2.2).mono fun e w' h => ⟨h.1, h⟩)).mono ?_
      rintro e w' ⟨rfl, oz, hMz, hTz⟩
      have HMZ := Lib.hid hMz
      have HTZ := Lib.hid (HTA.out.trans hTz)
      clear hMz hTz
      go_wp2_with fail
      go_end0
      refine ⟨rfl, oz, ?_, HTZ.out⟩
      rw [HE.out]
      simp only [HP.out, HY.out, hm8]
      exact HMZ.out
  | some a =>
    obtain rfl : had = true := by rw [← hgh]; rfl
    obtain rfl : gv = a := by rw [← hg]; rfl
    clear hg hgh
    go_wp2_with fail
    go_at_call 218
    refine (on_spec M.β 4 2 fl q w3 b3 (by omega) rfl HQ.out).mono ?_
    rintro e w' ⟨rfl, rfl⟩
    cases q with
    | false =>
      have HP := Lib.hid (show (if false = true then some gv else none) = none from rfl)
      clear b0 b3 x0 x1 x2
      have HCI := Lib.hid HC3.out
      obtain ⟨b0, _, _, _, b6, _⟩ := head_tb HM3.out.head
      obtain ⟨x0, x1, x2⟩ := HC3.out.cells
      go_wp2_with fail
      go_at_call 224
      refine (mkeys_spec M.bb nk ck AK ks b.b _ o3 HM3.out.buf HK3.out.1 (fun ad e => ⟨(HK3.out.2 ad e).1, by rw [(HK3.out.2 ad e).2]; omega⟩) HO.out.kok HO.out.kel).mono ?_
      rintro e w4 ⟨rfl, o4, hB4, hT4⟩
      have HM4 := Lib.hid (HM3.out.buf_ hT4 hB4)
      have HC4 := Lib.hid (HC3.out.to_ hT4 (by omega) (by omega))
      have HT4 := Lib.hid (HT3.out.trans (hT4.mono fun _ h => bld_1 h))
      clear hB4 hT4 b0 b6 x0 x1 x2
      rw [HY.out] at HM4 ⊢
      obtain ⟨x0, x1, x2⟩ := HC4.out.cells
      have hal := (Below.refl w4.heap.size w4).alloc (Nat.le_refl _) (.cells #[.int .i64 (kv.t : Int), .int .i64 (kv.w : Int), .int .u64 (kv.n : Int)] 185)
      have HM5 := Lib.hid (HM4.out.fresh hal 0)
      have HC5 := Lib.hid (HC4.out.to_ (To.fresh Bld hal o4 0) bld_0 nb9)
      have HT5 := Lib.hid (HT4.out.trans (To.fresh Bld hal o4 0))
      have HX5 := Lib.hid (Blk.new w4 185 #[.int .i64 (kv.t : Int), .int .i64 (kv.w : Int), .int .u64 (kv.n : Int)])
      have HO5 := Lib.hid (show newO o4 w4.heap.size 0 w4.heap.size = 0 from newO_new (Nat.le_refl _))
      have HLT := Lib.hid hal
      clear hal
      go_upto_region 4 with fail
      generalize w4.alloc (.cells #[.int .i64 (kv.t : Int), .int .i64 (kv.w : Int), .int .u64 (kv.n : Int)] 185) = w5 at HM5 HC5 HT5 HX5 ⊢
      generalize newO o4 w4.heap.size 0 = o5 at HM5 HC5 HT5 HO5
      generalize w4.heap.size = bk at HX5 HO5 ⊢
      clear x0 x1 x2
      obtain ⟨x0, x1, x2⟩ := HC5.out.cells
      go_wp2_with fail
      go_at_call 127
      refine (fail_ok HM5.out).mono ?_
      rintro e w6 ⟨rfl, o6, hM6, hT6⟩
      have HM6 := Lib.hid hM6
      have HC6 := Lib.hid (HC5.out.to_ hT6 bld_0 nb9)
      have HX6 := Lib.hid (HX5.out.to_ hT6 (by rw [HO5.out]; exact bld_0))
      have HO6 := Lib.hid (show o6 bk = 0 from (hT6.ow _ HX5.out.lt).trans HO5.out)
      have HT6 := Lib.hid (HT5.out.trans hT6)
      clear hM6 hT6 x0 x1 x2
      obtain ⟨x0, x1, x2⟩ := HC6.out.cells
      obtain ⟨A8, m8, c8, hb8, ho8, hof8, hoβ⟩ := HM6.out.head
      have hm8 : b.vals.length = m8 := by have := ho8.is.1; simpa using this
      have hm8l : m8 ≤ 1048576 := by have := HO.out.vl; omega
      have y8 : w6.cell? ⟨M.β, 8, none⟩ = some (.slice A8 m8 c8) := hb8.cell 8
      have fi : w6.frozen? ⟨bi, 0, none⟩ = false := HC6.out.i.frozen 0
      have HT8 := Lib.hid (HT6.out.set_new (p := ⟨bi, 0, none⟩) HBI.out (.int .i64 (m8 : Int)))
      have HC7 := Lib.hid (HC6.out.set m8)
      have HM7 := Lib.hid (HM6.out.to_ (to_own9 (p := ⟨bi, 0, none⟩) HC6.out.oi (.int .i64 (m8 : Int))) bld_9)
      have HX7 := Lib.hid (HX6.out.to_ (to_own9 (p := ⟨bi, 0, none⟩) HC6.out.oi (.int .i64 (m8 : Int))) (by rw [HO6.out]; decide))
      go_upto_region 6 with fail
      generalize w6.setCell ⟨bi, 0, none⟩ (.int .i64 (m8 : Int)) = w7 at HC7 HM7 HX7 HT8 ⊢
      clear hb8 ho8 hof8 hoβ x0 x1 x2 y8 fi
      obtain ⟨x0, x1, x2⟩ := HC7.out.cells
      obtain ⟨_, _, _, _, b6, _⟩ := head_tb HM7.out.head
      go_region_held3 (fun w' => w'.cell? ⟨bx, 0, none⟩ = some (.pointer (some ⟨M.β, 0, none⟩)) ∧ w'.cell? ⟨M.β, 6, none⟩ = some (.pointer (some ⟨M.lb, 0, none⟩)) ∧ w'.cell? ⟨bi, 0, none⟩ = some (.int .i64 (m8 : Int))) (first | with_reducible exact ⟨x0, b6, x2⟩ | with_reducible exact ⟨kdrew x0, kdrew b6, kdrew x2⟩ | with_reducible exact ⟨y0, y6, y2⟩) (first | (go_at_call 219; (with_reducible refine (pput_spec 6 M.lb b.lists list m8 _ o6 HM7.out.drew.lists HO.out.ll hm8l).mono ?_); rintro e w8 ⟨⟨x, rfl⟩, o8, hB8, hT8⟩; have hT8' := hT8.from_drew; have hC8 := HC7.out.to_ hT8' (by omega) (by omega); obtain ⟨y0, _, y2⟩ := hC8.cells; have hM8 := HM7.out.lists_ hT8' hB8; obtain ⟨_, _, _, _, y6, _⟩ := head_tb hM8.head; have HM8 := Lib.hid hM8; have HC8 := Lib.hid hC8; have HX8 := Lib.hid (HX7.out.to_ hT8' (by rw [HO6.out]; omega)); have HO8 := Lib.hid (show o8 bk = 0 from (hT8'.ow _ HX7.out.lt).trans HO6.out); have HT9 := Lib.hid (HT8.out.trans (hT8'.mono fun _ h => bld_6 h)); clear hB8 hT8 hT8' hC8 hM8))
      clear x0 x1 x2 b6
      obtain ⟨A9, m9, c9, hb9, ho9, hof9, hoβ9⟩ := HM8.out.head
      obtain rfl : m9 = m8 := by have := ho9.is.1; rw [← hm8]; simpa using this.symm
      have k0 : w8.cell? ⟨bk, 0, none⟩ = some (.int .i64 (kv.t : Int)) := HX8.out.cell 0
      have k1 : w8.cell? ⟨bk, 1, none⟩ = some (.int .i64 (kv.w : Int)) := HX8.out.cell 1
      have k2 : w8.cell? ⟨bk, 2, none⟩ = some (.int .u64 (kv.n : Int)) := HX8.out.cell 2
      have y8 : w8.cell? ⟨M.β, 8, none⟩ = some (.slice A9 m9 c9) := hb9.cell 8
      have hW0 : Below w8.heap.size w8 (w8.alloc (.cells #[.int .i64 (kv.t : Int), .int .i64 (kv.w : Int), .int .u64 (kv.n : Int)] 185)).drew := ((Below.refl _ _).alloc (Nat.le_refl _) _).drew
      have HW0 := Lib.hid hW0
      have HLI := Lib.hid (show IsV (w8.alloc (.cells #[.int .i64 (kv.t : Int), .int .i64 (kv.w : Int), .int .u64 (kv.n : Int)] 185)).drew (some ⟨w8.heap.size, 0, none⟩) 1 [vv kv] from (isv_lit w8 kv).pure (Below.refl _ _).drew)
      have HOW := Lib.hid (ho9.pure hW0)
      have HB9 := Lib.hid hb9
      have HO9 := Lib.hid ho9
      have HOF9 := Lib.hid hof9
      have HOB9 := Lib.hid hoβ9
      have j0 : (w8.alloc (.cells #[.int .i64 (kv.t : Int), .int .i64 (kv.w : Int), .int .u64 (kv.n : Int)] 185)).cell? ⟨bx, 0, none⟩ = some (.pointer (some ⟨M.β, 0, none⟩)) := cell_al _ y0
      have j8 : (w8.alloc (.cells #[.int .i64 (kv.t : Int), .int .i64 (kv.w : Int), .int .u64 (kv.n : Int)] 185)).cell? ⟨M.β, 8, none⟩ = some (.slice A9 m9 c9) := cell_al _ y8
      have jk0 : (w8.alloc (.cells #[.int .i64 (kv.t : Int), .int .i64 (kv.w : Int), .int .u64 (kv.n : Int)] 185)).cell? ⟨bk, 0, none⟩ = some (.int .i64 (kv.t : Int)) := cell_al _ k0
      have jk1 : (w8.alloc (.cells #[.int .i64 (kv.t : Int), .int .i64 (kv.w : Int), .int .u64 (kv.n : Int)] 185)).cell? ⟨bk, 1, none⟩ = some (.int .i64 (kv.w : Int)) := cell_al _ k1
      have jk2 : (w8.alloc (.cells #[.int .i64 (kv.t : Int), .int .i64 (kv.w : Int), .int .u64 (kv.n : Int)] 185)).cell? ⟨bk, 2, none⟩ = some (.int .u64 (kv.n : Int)) := cell_al _ k2
      clear hb9 ho9 hof9 hoβ9 hW0
      go_wp2_with fail
      go_cut [] (fun wx => ∃ wy, wy = wx ∧ ∃ oA, BM M fl wx oA { b with b := yb, vals := b.vals ++ [kv], lists := putP b.lists list m9 } ∧ TbC M A n c vs bx bv bi m9 wx oA ∧ To Bld w o wx oA)
      case first =>
        go_region_law (refine step_appV rfl (.tmp 65) (.tmp 67) rfl 0 A9 m9 c9 (b.vals.map vv) rfl HOW.out _ 1 1 [vv kv] rfl HLI.out (by omega) (Nat.zero_le _) ?_; intro AA ca W1 hown hfr hat; have hh := head_app HB9.out HO9.out HOF9.out HOB9.out HW0.out hown hfr hat; have hbx := (HC8.out.x.pure HW0.out).fr hfr (by rintro ⟨ad, e, h⟩; have h1 := HOF9.out ad e; rw [← h, HC8.out.ox] at h1; omega); have hbb := (HB9.out.pure HW0.out).fr hfr (by rintro ⟨ad, e, h⟩; have h1 := HOF9.out ad e; rw [← h, HOB9.out] at h1; omega); have z0 : W1.cell? ⟨bx, 0, none⟩ = some (.pointer (some ⟨M.β, 0, none⟩)) := hbx.cell 0; have z8 : W1.cell? ⟨M.β, 8, none⟩ = some (.slice A9 m9 c9) := hbb.cell 8; have f8 : W1.frozen? ⟨M.β, 8, none⟩ = false := hbb.frozen 8; have hk := (HX8.out.pure HW0.out).fr hfr (by rintro ⟨ad, e, h⟩; have h1 := HOF9.out ad e; rw [← h, HO8.out] at h1; omega); have z1 : W1.cell? ⟨bk, 0, none⟩ = some (.int .i64 (kv.t : Int)) := hk.cell 0; have z2 : W1.cell? ⟨bk, 1, none⟩ = some (.int .i64 (kv.w : Int)) := hk.cell 1; have z3 : W1.cell? ⟨bk, 2, none⟩ = some (.int .u64 (kv.n : Int)) := hk.cell 2; have HH := Lib.hid hh; clear hown hfr hat hh hbx hbb hk)
        all_goals
          go_wp2_with fail
          go_meet
          exact ⟨_, rfl, _, HM8.out.head_ HH.out.2 HH.out.1, HC8.out.to_ HH.out.2 (by omega) (by omega), HT9.out.trans (HH.out.2.mono fun _ h => bld_28 h)⟩
      case rest =>
        obtain ⟨wA, rfl, oA, hMA, hCA, hTA⟩ := hcut
        have HMA := Lib.hid hMA
        have HCA := Lib.hid hCA
        have HTA := Lib.hid hTA
        have HF := Lib.hid (show (b.vals ++ [kv])[m9]? = some kv ∧ b.s.length < 65536 ∧ VecOk vs yb ∧ kv.t = 14 ∧ isW (kv.w : Int) = true ∧ Fit yb.length kv from
          ⟨by rw [List.getElem?_append_right (by omega), hm8, Nat.sub_self]; rfl, HO.out.st, by have h := HO.out.vok2; rw [HY.out] at h; exact h, by have h := HY.out; unfold bVec at h; injection h with _ h; rw [← h], by have h := HO.out.kw; rw [HY.out] at h; exact h, by have h := HO.out.kfit; rw [HY.out] at h; exact h⟩)
        clear hMA hCA hTA y0 y2 y6 y8 k0 k1 k2 j0 j8 jk0 jk1 jk2
        obtain ⟨x0, _, _⟩ := HCA.out.cells
        go_wp2_with fail
        go_at_call 163
        refine (unless_spec M fl 225 _ _ _ ({ b with b := yb, vals := b.vals ++ [kv], lists := putP b.lists list m9 }).vals _ HMA.out.head Tryz.call225 ((table1_spec M fl ({ b with b := yb, vals := b.vals ++ [kv], lists := putP b.lists list m9 }) kv m9 bx bi bv A n c vs wA _ HMA.out HCA.out.x HCA.out.i HCA.out.v HCA.out.ox (by rw [HCA.out.oi]; decide) HCA.out.ov HCA.out.iv HCA.out.oa HF.out.1 HF.out.2.1 HF.out.2.2.1 HF.out.2.2.2.1 HF.out.2.2.2.2.1 HF.out.2.2.2.2.2).mono fun e w' h => ⟨h.1, h⟩)).mono ?_
        rintro e w' ⟨rfl, oz, hMz, hTz⟩
        have HMZ := Lib.hid hMz
        have HTZ := Lib.hid (HTA.out.trans hTz)
        clear hMz hTz
        go_wp2_with fail
        go_end0
        refine ⟨rfl, oz, ?_, HTZ.out⟩
        rw [HE.out]
        simp only [HP.out, HY.out, hm8]
        exact HMZ.out
    | true =>
      obtain ⟨kv0, hk0⟩ := HAD.out gv rfl
      have HF := Lib.hid (show b.vals[gv]? = some kv0 ∧ b.s.length < 65536 ∧ VecOk vs b.b ∧ kv0.t = 14 ∧ isW (kv0.w : Int) = true ∧ Fit b.b.length kv0 from ⟨hk0.1, HO.out.st, HO.out.vok, hk0.2.1, hk0.2.2.1, hk0.2.2.2⟩)
      have HV := Lib.hid (show b.vals.getD gv ⟨0, 0, 0⟩ = kv0 by rw [List.getD_eq_getElem?_getD, hk0.1]; rfl)
      clear hk0 b0 b3 x0 x1 x2
      obtain ⟨x0, _, _⟩ := HC3.out.cells
      go_wp2_with fail
      go_at_call 163
      refine (unless_spec M fl 225 _ _ _ (b).vals _ HM3.out.head Tryz.call225 ((table1_spec M fl (b) kv0 gv bx bi bv A n c vs w3 _ HM3.out HC3.out.x HC3.out.i HC3.out.v HC3.out.ox (by rw [HC3.out.oi]; decide) HC3.out.ov HC3.out.iv HC3.out.oa HF.out.1 HF.out.2.1 HF.out.2.2.1 HF.out.2.2.2.1 HF.out.2.2.2.2.1 HF.out.2.2.2.2.2).mono fun e w' h => ⟨h.1, h⟩)).mono ?_
      rintro e w' ⟨rfl, oz, hMz, hTz⟩
      have HMZ := Lib.hid hMz
      have HTZ := Lib.hid (HT3.out.trans hTz)
      clear hMz hTz
      go_wp2_with fail
      go_end0
      refine ⟨rfl, oz, ?_, HTZ.out⟩
      rw [HE.out]
      simp only [↓reduceIte, HV.out]
      exact HMZ.out
end Go.Proofs.YtfoifdoaleaekaaGreat

namespace Go.Proofs.YtfoifdoaleaekaaGreat
open Go.Shelf Go.RowKit Go.Acc
def sbw_ren : Go.Shelf.Ren := ⟨fun | 166 => 177 | 240 => 223 | 276 => 249 | n => n, fun | 0 => 0 | 3 => 3 | 4 => 4 | 9 => 9 | 20 => 20 | 5 => 5 | 37 => 29 | 70 => 231 | 72 => 233 | 75 => 235 | 80 => 239 | 164 => 300 | n => n, fun | n => n⟩
theorem sbw : Go.Proofs.Lays.n166 Tryz.prog sbw_ren := {
  mixed := by kernel_rfl
  f166 := Tryz.func177.trans (congrArg some (by kernel_rfl))
  f240 := Tryz.func223.trans (congrArg some (by kernel_rfl))
  f276 := Tryz.func249.trans (congrArg some (by kernel_rfl))
  t0 := Tryz.underlying0
  a0 := Tryz.isAgg0
  z0 := Tryz.sizeOf0
  v0 := Tryz.zeroValue0
  t3 := Tryz.underlying3
  a3 := Tryz.isAgg3
  z3 := Tryz.sizeOf3
  v3 := Tryz.zeroValue3
  t4 := Tryz.underlying4
  a4 := Tryz.isAgg4
  z4 := Tryz.sizeOf4
  v4 := Tryz.zeroValue4
  t9 := Tryz.underlying9
  a9 := Tryz.isAgg9
  z9 := Tryz.sizeOf9
  v9 := Tryz.zeroValue9
  t20 := Tryz.underlying20
  a20 := Tryz.isAgg20
  z20 := Tryz.sizeOf20
  v20 := Tryz.zeroValue20
  t37 := Tryz.underlying29
  a37 := Tryz.isAgg29
  z37 := Tryz.sizeOf29
  v37 := Tryz.zeroValue29
  t70 := Tryz.underlying231
  a70 := Tryz.isAgg231
  z70 := Tryz.sizeOf231
  v70 := Tryz.zeroValue231
  t72 := Tryz.underlying233
  a72 := Tryz.isAgg233
  z72 := Tryz.sizeOf233
  v72 := Tryz.zeroValue233
  t75 := Tryz.underlying235
  a75 := Tryz.isAgg235
  z75 := Tryz.sizeOf235
  v75 := Tryz.zeroValue235
  t164 := Tryz.underlying300
  a164 := Tryz.isAgg300
  z164 := Tryz.sizeOf300
  v164 := Tryz.zeroValue300 }
def sbs_ren : Go.Shelf.Ren := ⟨fun | 169 => 179 | n => n, fun | 0 => 0 | 3 => 3 | 9 => 9 | 5 => 5 | 37 => 29 | 70 => 231 | 72 => 233 | 127 => 274 | n => n, fun | n => n⟩
theorem sbs : Go.Proofs.Lays.n169 Tryz.prog sbs_ren := {
  mixed := by kernel_rfl
  f169 := Tryz.func179.trans (congrArg some (by kernel_rfl))
  t0 := Tryz.underlying0
  a0 := Tryz.isAgg0
  z0 := Tryz.sizeOf0
  v0 := Tryz.zeroValue0
  t3 := Tryz.underlying3
  a3 := Tryz.isAgg3
  z3 := Tryz.sizeOf3
  v3 := Tryz.zeroValue3
  t9 := Tryz.underlying9
  a9 := Tryz.isAgg9
  z9 := Tryz.sizeOf9
  v9 := Tryz.zeroValue9
  t37 := Tryz.underlying29
  a37 := Tryz.isAgg29
  z37 := Tryz.sizeOf29
  v37 := Tryz.zeroValue29
  t70 := Tryz.underlying231
  a70 := Tryz.isAgg231
  z70 := Tryz.sizeOf231
  v70 := Tryz.zeroValue231
  t72 := Tryz.underlying233
  a72 := Tryz.isAgg233
  z72 := Tryz.sizeOf233
  v72 := Tryz.zeroValue233
  t127 := Tryz.underlying274
  a127 := Tryz.isAgg274
  z127 := Tryz.sizeOf274
  v127 := Tryz.zeroValue274 }
theorem sbw_extra : Builder.Extra Tryz.prog sbw_ren where
  sizeBuilder := by kernel_rfl
  liesBuilder := by kernel_rfl
  t5 := Tryz.underlying5
  a5 := Tryz.isAgg5
  z5 := Tryz.sizeOf5
  v5 := Tryz.zeroValue5
  infoByte := by kernel_rfl
  cellsByte := by kernel_rfl
  sizeByte := by kernel_rfl
  neB5 := by decide
theorem sbs_extra : Builder.Extra Tryz.prog sbs_ren where
  sizeBuilder := by kernel_rfl
  liesBuilder := by kernel_rfl
  t5 := Tryz.underlying5
  a5 := Tryz.isAgg5
  z5 := Tryz.sizeOf5
  v5 := Tryz.zeroValue5
  infoByte := by kernel_rfl
  cellsByte := by kernel_rfl
  sizeByte := by kernel_rfl
  neB5 := by decide
def SbO (w : World) (B b : Nat) (l : List UInt8) : Prop := Go.Lib.IsBuilderF 233 5 B b (Go.Lib.byteCells l) w
theorem wstr_spec (B b : Nat) (l s : List UInt8) (w : World) (h : SbO w B b l) (hl : l.length + s.length ≤ 1048576) (hB : B ≤ w.heap.size) :
    Calls Tryz.prog 177 #[.pointer (some ⟨b, 0, none⟩), .string ⟨s.toArray⟩] w fun e w' => (∃ x, e = .returned x) ∧ SbO w' B b (l ++ s) ∧ Below B w w' := by
  refine (Any.Builder_WriteString_k sbw sbw_extra B b (Go.Lib.byteCells l) ⟨s.toArray⟩ w h ?_ hB).mono ?_
  · show _ + s.toArray.size ≤ _
    rw [Go.Lib.byteCells_length, List.size_toArray]
    omega
  · rintro e w' ⟨rfl, h1, h2, _⟩
    refine ⟨⟨_, rfl⟩, .inr ?_, h2⟩
    have e1 : Go.Lib.byteCells l ++ Go.Lib.strCells ⟨s.toArray⟩ = Go.Lib.byteCells (l ++ s) := by
      simp [Go.Lib.byteCells, Go.Lib.strCells]
    rw [← e1]
    exact h1
theorem bstring_spec (B b : Nat) (l : List UInt8) (w : World) (h : SbO w B b l) (hB : B ≤ w.heap.size) :
    Calls Tryz.prog 179 #[.pointer (some ⟨b, 0, none⟩)] w fun e w' => e = .returned (.string ⟨l.toArray⟩) ∧ Below B w w' := by
  refine (Any.Builder_String_any_k sbs sbs_extra B b l w h hB).mono ?_
  rintro e w' ⟨rfl, _, h2, _⟩
  exact ⟨rfl, h2⟩
theorem sb_new (w : World) : SbO (w.alloc (.cells #[.pointer none, .slice none 0 0] 233)) w.heap.size w.heap.size [] := Go.Lib.IsBuilderF.of (Go.Lib.fresh_isBuilder 233 5 w)
end Go.Proofs.YtfoifdoaleaekaaGreat
