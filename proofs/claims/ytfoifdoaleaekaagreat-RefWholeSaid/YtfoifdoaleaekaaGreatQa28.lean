/-
  Package build: a string or a blob is written.
  Package build: a flag is looked at; strings and blobs are written.
  Package build: a string is written, or found.
-/
import Derived.Test.YtfoifdoaleaekaaGreatQa11
import Derived.Test.YtfoifdoaleaekaaGreatQa27
import Derived.Laws.Bits64b
namespace Go.Proofs.YtfoifdoaleaekaaGreat
open Go.RowKit Go.Acc
theorem two_strs (W : World) (s z : List UInt8) : IsS (W.alloc (.cells #[.string ⟨s.toArray⟩, .string ⟨z.toArray⟩] 9)) (some ⟨W.heap.size, 0, none⟩) 2 [s, z] := by
  refine ⟨rfl, fun j u hu => ⟨_, _, rfl, ?_⟩⟩
  rw [Nat.zero_add, (Blk.new W _ _).cell j]
  simpa [stc] using hu
theorem wd_fits (n : Nat) (hn : n < 18446744073709551616) : fitsU (bWidth n) n = true := decide_eq_true (.inr (bWidth_lt (bWidth_is n) hn (Nat.le_refl _)))
/-- What text does. -/
def bText (t : Nat) (s z : List UInt8) (b : Bd) : Bd :=
  let c := alignB (bWidth s.length) b.b ++ leBytes (bWidth s.length) s.length
  ({ b with b := c ++ s ++ z, texts := if t = 5 then putP b.texts s c.length else b.texts } : Bd).push ⟨t, bWidth s.length, c.length⟩
theorem head_tb {M : Bp} {fl : Int} {w : World} {o : Nat → Nat} {vals : List Bv} (h : HeadO M fl w o vals) : w.cell? ⟨M.β, 0, none⟩ = some (.pointer (some ⟨M.bb, 0, none⟩)) ∧ w.cell? ⟨M.β, 3, none⟩ = some (.int .i64 fl) ∧ w.cell? ⟨M.β, 4, none⟩ = some (.pointer (some ⟨M.kb, 0, none⟩)) ∧ w.cell? ⟨M.β, 5, none⟩ = some (.pointer (some ⟨M.tb, 0, none⟩)) ∧ w.cell? ⟨M.β, 6, none⟩ = some (.pointer (some ⟨M.lb, 0, none⟩)) ∧ w.cell? ⟨M.β, 7, none⟩ = some (.map (some M.mb)) := by
  obtain ⟨A, n, c, hb, _⟩ := h
  exact ⟨hb.cell 0, hb.cell 3, hb.cell 4, hb.cell 5, hb.cell 6, hb.cell 7⟩
theorem bld_5 {i : Nat} (h : i = 5) : Bld i := by subst h; exact ⟨by omega, by omega⟩
set_option maxRecDepth 100000 in
set_option maxHeartbeats 2000000 in
theorem wtext_spec (M : Bp) (fl : Int) (b : Bd) (t : Nat) (s z : List UInt8) (w : World) (o : Nat → Nat) (h : BM M fl w o b) (hs : b.s.length < 65536) (hm : b.b.length + s.length + z.length + 20 ≤ 1048576) (htx : b.texts.length ≤ 1048575) :
    Calls Tryz.prog 230 #[.pointer (some ⟨M.β, 0, none⟩), .int .i64 (t : Int), .string ⟨s.toArray⟩, .string ⟨z.toArray⟩] w (BTo M fl (bText t s z b) w o) := by
  have HM := Lib.hid h
  have HS := Lib.hid hs
  have HTX := Lib.hid htx
  obtain ⟨n, hn⟩ : ∃ n, s.length = n := ⟨_, rfl⟩
  obtain ⟨y, hy⟩ : ∃ y, bWidth n = y := ⟨_, rfl⟩
  have hn64 : n < 18446744073709551616 := by omega
  have HW := Lib.hid (show wdU n = (y : Int) by rw [wdU_b, hy])
  have hyw : isW (y : Int) = true := by rw [← hy]; exact bWidth_is n
  have HY := Lib.hid hyw
  have hy8 : y ≤ 8 := by rcases w_cases hyw with rfl | rfl | rfl | rfl <;> omega
  have HF := Lib.hid (show fitsU y n = true by rw [← hy]; exact wd_fits n hn64)
  have HL7 := Lib.hid (show b.b.length + 7 ≤ 1048576 by omega)
  have hal := alignB_len b.b hy8
  have HLN := Lib.hid (show (alignB y b.b).length + y ≤ 1048576 by omega)
  have hlt : (alignB y b.b ++ leBytes y n).length + [s, z].flatten.length ≤ 1048576 := by
    rw [List.length_append, leBytes_length]; simp; omega
  have HLT := Lib.hid hlt
  obtain ⟨m, hmm⟩ : ∃ m, (alignB y b.b ++ leBytes y n).length = m := ⟨_, rfl⟩
  have hm20 : m ≤ 1048576 := by omega
  have HMM := Lib.hid hmm
  have HN64 := Lib.hid (show (n : Int) < 18446744073709551616 by omega)
  have HBL := Lib.hid (show bText t s z b = ({ b with b := alignB y b.b ++ leBytes y n ++ [s, z].flatten, texts := if t = 5 then putP b.texts s m else b.texts } : Bd).push ⟨t, y, m⟩ by
    unfold bText Bd.push
    simp only [hn, hy, hmm]
    simp)
  have hwn : IntKind.u64.wrap (n : Int) = (n : Int) := u64_in _ (by omega)
  have hwm : IntKind.u64.wrap (m : Int) = (m : Int) := u64_in _ (by omega)
  have hsz : (⟨s.toArray⟩ : ByteArray).size = n := hn
  have HN64' := Lib.hid hn64
  obtain ⟨b0, b3, b4, b5, b6, b7⟩ := head_tb h.head
  clear h hs hm hy hyw hal hmm hn64 b3 b4 b6 b7 hlt htx
  go_enter Tryz.func230, Tryz.ntmps230
  go_wp2_with fail
  go_at_call 215
  refine (wof_is n (y : Int) w HN64'.out HW.out).mono ?_
  rintro e w' ⟨rfl, rfl⟩
  go_wp2_with fail
  go_at_call 130
  refine (balign_spec M.bb y b.b w o HM.out.buf HY.out HL7.out).mono ?_
  rintro e w1 ⟨rfl, o1, hB1, hT1⟩
  have HM1 := Lib.hid (HM.out.buf_ hT1 hB1)
  have HT1 := Lib.hid hT1
  clear hB1 hT1 b0 b5
  obtain ⟨b0, _, _, b5, _⟩ := head_tb HM1.out.head
  go_wp2_with fail
  go_at_call 133
  refine (bnum_spec M.bb y n (alignB y b.b) w1 o1 HM1.out.buf HY.out HF.out HN64.out HLN.out).mono ?_
  rintro e w2 ⟨rfl, o2, hB2, hT2⟩
  have HM2 := Lib.hid (HM1.out.buf_ hT2 hB2)
  have HT2 := Lib.hid (HT1.out.trans hT2)
  clear hB2 hT2 b0 b5 HT1 HM1
  obtain ⟨b0, _, _, b5, _⟩ := head_tb HM2.out.head
  go_wp2_with fail
  go_at_call 129
  refine (blen_is m HM2.out.buf HMM.out).mono ?_
  rintro e w' ⟨rfl, rfl⟩
  go_wp2_with fail
  go_at_call 134
  refine (btext_spec M.bb 2 2 _ [s, z] (alignB y b.b ++ leBytes y n) _ (newO o2 w2.heap.size 0) (HM2.out.fresh ((Below.refl _ _).alloc (Nat.le_refl _) _) 0).buf (two_strs w2 s z) ?_ HLT.out (by omega)).mono ?_
  · rintro ad e
    injection e with e
    subst e
    show newO o2 w2.heap.size 0 w2.heap.size ≠ 1
    rw [newO_new (Nat.le_refl _)]
    omega
  rintro e w3 ⟨rfl, o3, hB3, hT3⟩
  have HM3 := Lib.hid ((HM2.out.fresh ((Below.refl _ _).alloc (Nat.le_refl _) (.cells #[.string ⟨s.toArray⟩, .string ⟨z.toArray⟩] 9)) 0).buf_ hT3 hB3)
  have HT3 := Lib.hid (HT2.out.trans ((To.fresh (fun i => i = 1) ((Below.refl w2.heap.size w2).alloc (Nat.le_refl _) (.cells #[.string ⟨s.toArray⟩, .string ⟨z.toArray⟩] 9)) o2 0).trans hT3))
  clear hB3 hT3 b0 b5 HT2 HM2
  obtain ⟨b0, b3, b4, b5, b6, b7⟩ := head_tb HM3.out.head
  clear b3 b4 b6 b7
  by_cases ht : t = 5
  · have HE := Lib.hid ht
    have e1 : ((t : Int) == 5) = true := by rw [ht]; rfl
    clear ht
    go_wp2_with fail
    go_at_call 219
    refine (pput_spec 5 M.tb b.texts s m w3 o3 HM3.out.texts HTX.out hm20).mono ?_
    rintro e w4 ⟨⟨x, rfl⟩, o4, hB4, hT4⟩
    have HM4 := Lib.hid (HM3.out.texts_ hT4 hB4)
    have HT4 := Lib.hid ((HT3.out.mono (fun _ h => bld_1 h)).trans (hT4.mono (fun _ h => bld_5 h)))
    clear hB4 hT4 b0 b5 HT3 HM3
    obtain ⟨b0, _⟩ := head_tb HM4.out.head
    go_wp2_with fail
    go_at_call 173
    refine (pushp_is M fl _ t y m w4 o4 HM4.out HS.out).mono ?_
    rintro e w5 ⟨rfl, o5, hM5, hT5⟩
    have HM5 := Lib.hid hM5
    have HT5 := Lib.hid (HT4.out.trans hT5)
    clear hM5 hT5
    go_wp2
    go_end0
    rw [HBL.out, if_pos HE.out]
    exact ⟨rfl, o5, HM5.out, HT5.out⟩
  · have HE := Lib.hid ht
    have e1 : ((t : Int) == 5) = false := beq_eq_false_iff_ne.mpr (by omega)
    clear ht
    go_wp2_with fail
    go_at_call 173
    refine (pushp_is M fl _ t y m w3 o3 HM3.out HS.out).mono ?_
    rintro e w5 ⟨rfl, o5, hM5, hT5⟩
    have HM5 := Lib.hid hM5
    have HT5 := Lib.hid ((HT3.out.mono (fun _ h => bld_1 h)).trans hT5)
    clear hM5 hT5
    go_wp2
    go_end0
    rw [HBL.out, if_neg HE.out]
    exact ⟨rfl, o5, HM5.out, HT5.out⟩
end Go.Proofs.YtfoifdoaleaekaaGreat

namespace Go.Proofs.YtfoifdoaleaekaaGreat
open Go.RowKit Go.Acc
theorem bits_and_i64 (fl : Int) (k : Nat) (hk : k ≤ 4) : Go.bits .and .i64 fl (k : Int) = ((Go.Proofs.YtfoifdoaleaekaaGreat.bits fl &&& k : Nat) : Int) := by
  have hx : Go.Proofs.YtfoifdoaleaekaaGreat.bits fl &&& k ≤ k := Nat.and_le_right
  have h1 : (BitVec.ofInt 64 fl).toNat = Go.Proofs.YtfoifdoaleaekaaGreat.bits fl := by
    rw [BitVec.toNat_ofInt]; rfl
  have h2 : (BitVec.ofInt 64 (k : Int)).toNat = k := by
    rw [BitVec.ofInt_natCast, BitVec.toNat_ofNat]; exact Nat.mod_eq_of_lt (by omega)
  show IntKind.i64.wrap ((BitVec.ofInt 64 fl &&& BitVec.ofInt 64 (k : Int)).toNat : Int) = _
  rw [BitVec.toNat_and, h1, h2]
  exact IntWalk.i64_in _ (by omega)
theorem and_pow (x i : Nat) : x &&& 2 ^ i = if x / 2 ^ i % 2 = 1 then 2 ^ i else 0 := by
  refine Nat.eq_of_testBit_eq fun j => ?_
  rw [Nat.testBit_and, Nat.testBit_two_pow]
  by_cases e : i = j
  · subst e
    rw [Nat.testBit_eq_decide_div_mod_eq]
    by_cases h : x / 2 ^ i % 2 = 1
    · rw [if_pos h]; simp [h]
    · rw [if_neg h]; simp [h]
  · split
    · rw [Nat.testBit_two_pow]; simp [e]
    · simp [e]
theorem on_and (fl : Int) (k i : Nat) (hk : k ≤ 4) (hi : k = 2 ^ i) : (!(Go.bits .and .i64 fl (k : Int) == 0)) = onF (Go.Proofs.YtfoifdoaleaekaaGreat.bits fl) k := by
  rw [bits_and_i64 fl k hk, hi, and_pow]
  unfold onF
  by_cases h : Go.Proofs.YtfoifdoaleaekaaGreat.bits fl / 2 ^ i % 2 = 1
  · rw [if_pos h, decide_eq_true h]
    have h2 : 0 < 2 ^ i := Nat.two_pow_pos i
    obtain ⟨z, hz⟩ : ∃ z, 2 ^ i = z := ⟨_, rfl⟩
    rw [hz] at h2 ⊢
    have h3 : ((z : Nat) : Int) ≠ 0 := by omega
    simpa using h3
  · rw [if_neg h, decide_eq_false h]
    rfl
theorem on_spec (β k i : Nat) (fl : Int) (r : Bool) (w : World) (h : w.cell? ⟨β, 3, none⟩ = some (.int .i64 fl)) (hk : k ≤ 4) (hi : k = 2 ^ i) (hr : onF (Go.Proofs.YtfoifdoaleaekaaGreat.bits fl) k = r) :
    Calls Tryz.prog 218 #[.pointer (some ⟨β, 3, none⟩), .int .i64 (k : Int)] w fun e w' => e = .returned (.bool r) ∧ w = w' := by
  have e1 := on_and fl k i hk hi
  rw [hr] at e1
  obtain ⟨q, hq⟩ : ∃ q, Go.bits .and .i64 fl (k : Int) = q := ⟨_, rfl⟩
  rw [hq] at e1
  clear hk hi hr
  go_enter Tryz.func218, Tryz.ntmps218
  go_wp2
  go_ret
  exact ⟨by rw [← e1]; rfl, rfl⟩
/-- What the closure of Str and of Blob reads. -/
structure TxC (M : Bp) (s : List UInt8) (bx bs : Nat) (w : World) (o : Nat → Nat) : Prop where
  x : Blk w bx 122 #[.pointer (some ⟨M.β, 0, none⟩)]
  s : Blk w bs 9 #[.string ⟨s.toArray⟩]
  ox : o bx = 0
  os : o bs = 0
theorem TxC.cells {M : Bp} {s : List UInt8} {bx bs : Nat} {w : World} {o : Nat → Nat} (h : TxC M s bx bs w o) : w.cell? ⟨bx, 0, none⟩ = some (.pointer (some ⟨M.β, 0, none⟩)) ∧ w.cell? ⟨bs, 0, none⟩ = some (.string ⟨s.toArray⟩) := ⟨h.x.cell 0, h.s.cell 0⟩
theorem TxC.pure {M : Bp} {s : List UInt8} {bx bs : Nat} {w w' : World} {o : Nat → Nat} (h : TxC M s bx bs w o) (hb : Below w.heap.size w w') : TxC M s bx bs w' o := ⟨h.x.pure hb, h.s.pure hb, h.ox, h.os⟩
theorem txc_new (M : Bp) (s : List UInt8) (w : World) (o : Nat → Nat) : TxC M s w.heap.size (w.heap.size + 1) ((w.alloc (.cells #[.pointer (some ⟨M.β, 0, none⟩)] 122)).alloc (.cells #[.string ⟨s.toArray⟩] 9)) (newO o w.heap.size 0) :=
  ⟨(Blk.new w 122 #[.pointer (some ⟨M.β, 0, none⟩)]).alloc _, blk_new2 w _ 9 #[.string ⟨s.toArray⟩], newO_new (by omega), newO_new (by omega)⟩
theorem blob_eq (s : List UInt8) (b : Bd) : bText 25 s [] b = b.blob s := by
  unfold bText Bd.blob Bd.push
  simp
theorem str_eq (f : Nat) (s : List UInt8) (b : Bd) : b.str f s = match (if onF f 2 = true then getP b.texts s else none) with
  | some a => b.push ⟨5, bWidth s.length, a⟩
  | none => bText 5 s [0] b := by
  unfold Bd.str bText Bd.push
  cases (if onF f 2 = true then getP b.texts s else none) <;> simp
/-- There is room for a string, and the pools are not full. -/
structure RoomS (b : Bd) (s : List UInt8) : Prop where
  st : b.s.length < 65536
  len : b.b.length + s.length + 21 ≤ 1048576
  tx : b.texts.length ≤ 1048575
set_option maxHeartbeats 400000 in
theorem cblob1_spec (M : Bp) (fl : Int) (b : Bd) (s : List UInt8) (bx bs : Nat) (w : World) (o : Nat → Nat) (h : BM M fl w o b) (hc : TxC M s bx bs w o) (hr : RoomS b s) :
    Calls Tryz.prog 231 #[.pointer (some ⟨bx, 0, none⟩), .pointer (some ⟨bs, 0, none⟩)] w (BTo M fl (b.blob s) w o) := by
  have HM := Lib.hid h
  have HR := Lib.hid hr
  obtain ⟨x0, s0⟩ := hc.cells
  have hlen := Lib.hid (show b.b.length + s.length + ([] : List UInt8).length + 20 ≤ 1048576 by have := hr.len; simp; omega)
  clear h hc hr
  go_enter Tryz.func231, Tryz.ntmps231
  go_wp2_with fail
  go_at_call 230
  refine (wtext_spec M fl b 25 s [] w o HM.out HR.out.st hlen.out HR.out.tx).mono ?_
  intro e w1 hR
  obtain rfl := hR.1
  have HT := Lib.hid hR
  clear hR
  go_wp2
  go_end0
  rw [← blob_eq]
  exact HT.out
set_option maxHeartbeats 400000 in
theorem cblob_spec (M : Bp) (fl : Int) (b : Bd) (s : List UInt8) (w : World) (o : Nat → Nat) (h : BM M fl w o b) (hr : RoomS b s) :
    Calls Tryz.prog 187 #[.pointer (some ⟨M.β, 0, none⟩), .string ⟨s.toArray⟩] w (BTo M fl (b.blob s) w o) := by
  have HR := Lib.hid hr
  have hB := below_two w (.cells #[.pointer (some ⟨M.β, 0, none⟩)] 122) (.cells #[.string ⟨s.toArray⟩] 9)
  have HB := Lib.hid hB
  have HM := Lib.hid (h.fresh hB 0)
  have HC := Lib.hid (txc_new M s w o)
  clear h hr hB
  go_enter Tryz.func187, Tryz.ntmps187
  go_wp2_with fail
  go_at_call 163
  refine (unless_spec M fl 231 _ _ (newO o w.heap.size 0) b.vals _ HM.out.head Tryz.call231 ((cblob1_spec M fl b s w.heap.size (w.heap.size + 1) _ (newO o w.heap.size 0) HM.out HC.out HR.out).mono fun e w' h => ⟨h.1, h⟩)).mono ?_
  rintro e w' hR
  obtain rfl := hR.1
  have HR := Lib.hid (hR.from_fresh HB.out)
  clear hR
  go_wp2
  go_end0
  exact HR.out
end Go.Proofs.YtfoifdoaleaekaaGreat

namespace Go.Proofs.YtfoifdoaleaekaaGreat
open Go.RowKit Go.Acc
set_option maxRecDepth 100000 in
set_option maxHeartbeats 2000000 in
theorem cstr1_spec (M : Bp) (fl : Int) (b : Bd) (s : List UInt8) (bx bs : Nat) (w : World) (o : Nat → Nat) (h : BM M fl w o b) (hc : TxC M s bx bs w o) (hr : RoomS b s) :
    Calls Tryz.prog 229 #[.pointer (some ⟨bx, 0, none⟩), .pointer (some ⟨bs, 0, none⟩)] w (BTo M fl (b.str (Go.Proofs.YtfoifdoaleaekaaGreat.bits fl) s) w o) := by
  have HM := Lib.hid h
  have HR := Lib.hid hr
  have HC := Lib.hid hc
  obtain ⟨n, hn⟩ : ∃ n, s.length = n := ⟨_, rfl⟩
  obtain ⟨y, hy⟩ : ∃ y, bWidth n = y := ⟨_, rfl⟩
  have HN64 := Lib.hid (show n < 18446744073709551616 by have := hr.len; omega)
  have HW := Lib.hid (show wdU n = (y : Int) by rw [wdU_b, hy])
  have hwn : IntKind.u64.wrap (n : Int) = (n : Int) := u64_in _ (by have := hr.len; omega)
  have hsz : (⟨s.toArray⟩ : ByteArray).size = n := hn
  obtain ⟨g, hg⟩ : ∃ g, getP b.texts s = g := ⟨_, rfl⟩
  obtain ⟨q, hq⟩ : ∃ q, onF (Go.Proofs.YtfoifdoaleaekaaGreat.bits fl) 2 = q := ⟨_, rfl⟩
  have HE := Lib.hid (str_eq (Go.Proofs.YtfoifdoaleaekaaGreat.bits fl) s b)
  obtain ⟨gv, hgv⟩ : ∃ v, g.getD 0 = v := ⟨_, rfl⟩
  obtain ⟨had, hhad⟩ : ∃ v, g.isSome = v := ⟨_, rfl⟩
  have HG := Lib.hid (show optN (getP b.texts s) = .tuple #[.int .i64 (gv : Int), .bool had] by rw [hg]; unfold optN; rw [hgv, hhad])
  have HGG := Lib.hid hg
  have HGV := Lib.hid (And.intro hgv hhad)
  have HQ := Lib.hid hq
  have HNY := Lib.hid (show bWidth s.length = y by rw [hn, hy])
  have hlen := Lib.hid (show b.b.length + s.length + ([0] : List UInt8).length + 20 ≤ 1048576 by have := hr.len; simp; omega)
  have HTX := Lib.hid (show b.texts.length ≤ 1048576 by have := hr.tx; omega)
  have HAT := Lib.hid (show ∀ a, g = some a → a ≤ 1048576 by
    intro a ha
    obtain ⟨A1, A2, n', c1, c2, ks, ns, hL, o1, o2, op, hP⟩ := h.texts.open_
    rw [ha, hP.get] at hg
    unfold getP at hg
    rw [Option.map_eq_some_iff] at hg
    obtain ⟨x, hx, rfl⟩ := hg
    exact hP.at_ _ (List.of_mem_zip (List.mem_of_find?_eq_some hx)).2)
  obtain ⟨a0, a1⟩ := hc.cells
  obtain ⟨_, a2, _, a3, _⟩ := head_tb h.head
  clear h hr hc hn hy hg hq hgv hhad
  go_enter Tryz.func229, Tryz.ntmps229
  go_wp2_with fail
  go_region_held3 (fun w' => w'.cell? ⟨bx, 0, none⟩ = some (.pointer (some ⟨M.β, 0, none⟩)) ∧ w'.cell? ⟨bs, 0, none⟩ = some (.string ⟨s.toArray⟩) ∧ w'.cell? ⟨M.β, 3, none⟩ = some (.int .i64 fl) ∧ w'.cell? ⟨M.β, 5, none⟩ = some (.pointer (some ⟨M.tb, 0, none⟩))) (first | with_reducible exact ⟨a0, a1, a2, a3⟩ | with_reducible exact ⟨kdrew a0, kdrew a1, kdrew a2, kdrew a3⟩ | with_reducible exact ⟨x0, x1, x2, x3⟩) (first | (go_at_call 217; (with_reducible refine (pget_spec 5 M.tb b.texts s _ o HM.out.drew.texts HTX.out).mono ?_); rintro e w1 ⟨rfl, hB⟩; rw [HG.out]; have x0 := cell_pure hB (kdrew a0); have x1 := cell_pure hB (kdrew a1); have x2 := cell_pure hB (kdrew a2); have x3 := cell_pure hB (kdrew a3); have HB := Lib.hid (pure_trans (below_dr w) hB); clear hB))
  have HM1 := Lib.hid (HM.out.pure HB.out)
  clear a0 a1 a2 a3
  obtain ⟨hg, hgh⟩ := HGV.out
  cases g with
  | none =>
    obtain rfl : had = false := by rw [← hgh]; rfl
    clear hg hgh
    have HNO := Lib.hid (show (if onF (Go.Proofs.YtfoifdoaleaekaaGreat.bits fl) 2 = true then getP b.texts s else none) = none by rw [HGG.out]; split <;> rfl)
    go_wp2_with fail
    go_at_call 230
    refine (wtext_spec M fl b 5 s [0] w1 o HM1.out HR.out.st hlen.out HR.out.tx).mono ?_
    intro e w2 hT
    obtain rfl := hT.1
    have HT := Lib.hid (hT.from_pure HB.out)
    clear hT
    go_wp2
    go_end0
    rw [HE.out, HNO.out]
    exact HT.out
  | some a =>
    obtain rfl : had = true := by rw [← hgh]; rfl
    obtain rfl : gv = a := by rw [← hg]; rfl
    have hwa : IntKind.u64.wrap (gv : Int) = (gv : Int) := u64_in _ (by have := HAT.out gv rfl; omega)
    clear hg hgh
    go_wp2_with fail
    go_at_call 218
    refine (on_spec M.β 2 1 fl q w1 x2 (by omega) rfl HQ.out).mono ?_
    rintro e w' ⟨rfl, rfl⟩
    cases q with
    | false =>
      have HNO := Lib.hid (show (if onF (Go.Proofs.YtfoifdoaleaekaaGreat.bits fl) 2 = true then getP b.texts s else none) = none by rw [HQ.out]; rfl)
      go_wp2_with fail
      go_at_call 230
      refine (wtext_spec M fl b 5 s [0] w1 o HM1.out HR.out.st hlen.out HR.out.tx).mono ?_
      intro e w2 hT
      obtain rfl := hT.1
      have HT := Lib.hid (hT.from_pure HB.out)
      clear hT
      go_wp2
      go_end0
      rw [HE.out, HNO.out]
      exact HT.out
    | true =>
      have HPP := Lib.hid (show Calls Tryz.prog 173 #[.pointer (some ⟨M.β, 0, none⟩), .agg #[.int .i64 5, .int .i64 (y : Int), .int .u64 (gv : Int)]] w1.drew (BTo M fl (b.push ⟨5, y, gv⟩) w1.drew o) from pushp_is M fl b 5 y gv _ o HM1.out.drew HR.out.st)
      go_wp2_with fail
      go_region_held3 (fun w' => w'.cell? ⟨bx, 0, none⟩ = some (.pointer (some ⟨M.β, 0, none⟩)) ∧ w'.cell? ⟨bs, 0, none⟩ = some (.string ⟨s.toArray⟩) ∧ w'.cell? ⟨M.β, 3, none⟩ = some (.int .i64 fl) ∧ w'.cell? ⟨M.β, 5, none⟩ = some (.pointer (some ⟨M.tb, 0, none⟩))) (first | with_reducible exact ⟨x0, x1, x2, x3⟩ | with_reducible exact ⟨kdrew x0, kdrew x1, kdrew x2, kdrew x3⟩ | with_reducible exact ⟨z0, z1, z2, z3⟩) (first | (go_at_call 215; (with_reducible refine (wof_is n (y : Int) _ HN64.out HW.out).mono ?_); rintro e w' ⟨rfl, rfl⟩) | (go_at_call 173; (with_reducible refine HPP.out.mono ?_); rintro e W3 ⟨rfl, o3, hM3, hT3⟩; have HM3 := Lib.hid hM3; have HT3 := Lib.hid hT3.from_drew; have hC3 := ((HC.out.pure HB.out).pure (below_dr w1)); have hx3 := hC3.x.to_ hT3 (by rw [hC3.ox]; exact bld_0); have hs3 := hC3.s.to_ hT3 (by rw [hC3.os]; exact bld_0); have z0 : W3.cell? ⟨bx, 0, none⟩ = some (.pointer (some ⟨M.β, 0, none⟩)) := hx3.cell 0; have z1 : W3.cell? ⟨bs, 0, none⟩ = some (.string ⟨s.toArray⟩) := hs3.cell 0; obtain ⟨_, z2, _, z3, _⟩ := head_tb hM3.head; clear hM3 hT3 hC3 hx3 hs3))
      go_wp2
      go_end0
      rw [HE.out, show (if onF (Go.Proofs.YtfoifdoaleaekaaGreat.bits fl) 2 = true then getP b.texts s else none) = some gv by rw [HQ.out, HGG.out]; rfl, HNY.out]
      exact ⟨rfl, o3, HM3.out, (To.pure _ HB.out o).trans HT3.out⟩
set_option maxHeartbeats 400000 in
theorem cstr_spec (M : Bp) (fl : Int) (b : Bd) (s : List UInt8) (w : World) (o : Nat → Nat) (h : BM M fl w o b) (hr : RoomS b s) :
    Calls Tryz.prog 186 #[.pointer (some ⟨M.β, 0, none⟩), .string ⟨s.toArray⟩] w (BTo M fl (b.str (Go.Proofs.YtfoifdoaleaekaaGreat.bits fl) s) w o) := by
  have HR := Lib.hid hr
  have hB := below_two w (.cells #[.pointer (some ⟨M.β, 0, none⟩)] 122) (.cells #[.string ⟨s.toArray⟩] 9)
  have HB := Lib.hid hB
  have HM := Lib.hid (h.fresh hB 0)
  have HC := Lib.hid (txc_new M s w o)
  clear h hr hB
  go_enter Tryz.func186, Tryz.ntmps186
  go_wp2_with fail
  go_at_call 163
  refine (unless_spec M fl 229 _ _ (newO o w.heap.size 0) b.vals _ HM.out.head Tryz.call229 ((cstr1_spec M fl b s w.heap.size (w.heap.size + 1) _ (newO o w.heap.size 0) HM.out HC.out HR.out).mono fun e w' h => ⟨h.1, h⟩)).mono ?_
  rintro e w' hR
  obtain rfl := hR.1
  have HR := Lib.hid (hR.from_fresh HB.out)
  clear hR
  go_wp2
  go_end0
  exact HR.out
end Go.Proofs.YtfoifdoaleaekaaGreat
