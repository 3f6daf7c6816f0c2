/-
  Package buf: none, Err, put, Len.
  Package le: spoiling bytes, bringing numbers into a range, widths.
  make([]byte, n): a row of zeros of the call's own; a literal slice of bytes as a row of the call's own.
  Package buf: with, Align, Num; package width: Code.
  Package buf: Align, Num.
  Package buf: Num, sum, Text.
  The arguments of a law, opened to cells: integers, slices of structs, slices of slices; and what a law's last step wants.
-/
import Derived.Test.YtfoifdoaleaekaaGreatQa06
namespace Go.Proofs.YtfoifdoaleaekaaGreat
open Go.RowKit Go.Acc
/-- The buffer at block b: its bytes l, no error, room for 2^20 bytes; it belongs to 1. -/
def Buf (w : World) (o : Nat → Nat) (b : Nat) (l : List UInt8) : Prop :=
  ∃ A n c, Blk w b 208 #[.bool true, .slice A n c, .int .i64 1048576, .int .i64 0] ∧ OwnB w 0 A n c l ∧ Of o A 1 ∧ o b = 1
/-- A call that leaves the buffer with the bytes l. -/
def BufTo (w : World) (o : Nat → Nat) (b : Nat) (l : List UInt8) (e : Ending) (w' : World) : Prop :=
  e = .returned (.tuple #[]) ∧ ∃ o', Buf w' o' b l ∧ To (fun i => i = 1) w o w' o'
section
variable {I : Nat → Prop} {w w' : World} {o o' : Nat → Nat} {b : Nat} {l : List UInt8}
theorem Buf.to_ (h : Buf w o b l) (ht : To I w o w' o') (hI : ¬ I 1) : Buf w' o' b l := by
  obtain ⟨A, n, c, hb, ho, h1, h2⟩ := h
  exact ⟨A, n, c, hb.to_ ht (by rw [h2]; exact hI), ho.to_ h1 ht hI, h1.to_ ho ht, by rw [ht.ow _ hb.lt]; exact h2⟩
theorem Buf.pure (h : Buf w o b l) (ht : Below w.heap.size w w') : Buf w' o b l := h.to_ (To.pure (fun _ => False) ht o) id
theorem Buf.drew (h : Buf w o b l) : Buf w.drew o b l := h
theorem Buf.drewN (n : Nat) (h : Buf w o b l) : Buf (w.drewN n) o b l := h
theorem Buf.alloc (h : Buf w o b l) (x : Obj) : Buf (w.alloc x) o b l := h.pure ((Below.refl _ _).alloc (Nat.le_refl _) x)
theorem BufTo.from_pure {w0 : World} {e : Ending} (hb : Below w0.heap.size w0 w) (h : BufTo w o b l e w') : BufTo w0 o b l e w' := by
  obtain ⟨h1, o', h2, h3⟩ := h
  exact ⟨h1, o', h2, h3.from_pure hb⟩
theorem Buf.fresh (h : Buf w o b l) (hb : Below w.heap.size w w') (i : Nat) : Buf w' (newO o w.heap.size i) b l := h.to_ (To.fresh (fun _ => False) hb o i) id
theorem BufTo.from_fresh {w0 : World} {i : Nat} {e : Ending} (hb : Below w0.heap.size w0 w) (h : BufTo w (newO o w0.heap.size i) b l e w') : BufTo w0 o b l e w' := by
  obtain ⟨h1, o', h2, h3⟩ := h
  exact ⟨h1, o', h2, (To.fresh _ hb o i).trans h3⟩
theorem Buf.lt (h : Buf w o b l) : b < w.heap.size := by obtain ⟨A, n, c, hb, _⟩ := h; exact hb.lt
theorem Buf.own (h : Buf w o b l) : o b = 1 := by obtain ⟨A, n, c, _, _, _, h⟩ := h; exact h
end
theorem bnone_spec (b : Nat) (w : World) (h : w.cell? ⟨b, 0, none⟩ = some (.bool true)) :
    Calls Tryz.prog 194 #[.pointer (some ⟨b, 0, none⟩)] w fun e w' => e = .returned (.bool false) ∧ w = w' := by
  go_enter Tryz.func194, Tryz.ntmps194
  go_wp2
  go_ret
  exact ⟨rfl, rfl⟩
theorem berr_spec (b : Nat) (w : World) (h : w.cell? ⟨b, 0, none⟩ = some (.bool true)) (h3 : w.cell? ⟨b, 3, none⟩ = some (.int .i64 0)) :
    Calls Tryz.prog 201 #[.pointer (some ⟨b, 0, none⟩)] w fun e w' => e = .returned (.int .i64 0) ∧ w = w' := by
  go_enter Tryz.func201, Tryz.ntmps201
  go_wp2_with (go_at_call 194; refine (bnone_spec b _ (by assumption)).mono ?_; rintro e w' ⟨rfl, rfl⟩)
  go_ret
  exact ⟨rfl, rfl⟩
theorem blen_spec (b n c : Nat) (A : Option Addr) (w : World) (h : w.cell? ⟨b, 0, none⟩ = some (.bool true)) (h3 : w.cell? ⟨b, 1, none⟩ = some (.slice A n c)) :
    Calls Tryz.prog 129 #[.pointer (some ⟨b, 0, none⟩)] w fun e w' => e = .returned (.int .i64 n) ∧ w = w' := by
  go_enter Tryz.func129, Tryz.ntmps129
  go_wp2_with (go_at_call 194; refine (bnone_spec b _ (by assumption)).mono ?_; rintro e w' ⟨rfl, rfl⟩)
  go_ret
  exact ⟨rfl, rfl⟩
theorem berr_is {w : World} {o : Nat → Nat} {b : Nat} {l : List UInt8} (h : Buf w o b l) : Calls Tryz.prog 201 #[.pointer (some ⟨b, 0, none⟩)] w fun e w' => e = .returned (.int .i64 0) ∧ w = w' := by
  obtain ⟨A, n, c, hb, _⟩ := h
  exact berr_spec b w (hb.cell 0) (hb.cell 3)
theorem blen_is {w : World} {o : Nat → Nat} {b : Nat} {l : List UInt8} (n : Nat) (h : Buf w o b l) (hn : l.length = n) : Calls Tryz.prog 129 #[.pointer (some ⟨b, 0, none⟩)] w fun e w' => e = .returned (.int .i64 n) ∧ w = w' := by
  obtain ⟨A, n', c, hb, ho, _⟩ := h
  obtain rfl : n = n' := by rw [← hn, ho.1]
  exact blen_spec b n c A w (hb.cell 0) (hb.cell 1)
theorem put_post {w w1 : World} {o : Nat → Nat} {A A1 : Option Addr} {b n c n2 c1 : Nat} {l x : List UInt8} (hb : Blk w b 208 #[.bool true, .slice A n c, .int .i64 1048576, .int .i64 0]) (ho : OwnB w 0 A n c l) (h1 : Of o A 1) (h2 : o b = 1)
    (hw : OwnB w1 0 A1 (n + n2) c1 (l ++ x)) (hf : Fr (fun k => ∃ ad, A = some ad ∧ k = ad.block) w w1) (hat : A1.map (·.block) = A.map (·.block) ∨ A1.map (·.block) = some w.heap.size)
    (hb1 : Blk w1 b 208 #[.bool true, .slice A n c, .int .i64 1048576, .int .i64 0]) :
    ∃ o', Buf (w1.setCell ⟨b, 1, none⟩ (.slice A1 (n + n2) c1)) o' b (l ++ x) ∧ To (fun i => i = 1) w o (w1.setCell ⟨b, 1, none⟩ (.slice A1 (n + n2) c1)) o' := by
  have hset : Fr (fun k => k = b) w1 (w1.setCell ⟨b, 1, none⟩ (.slice A1 (n + n2) c1)) := Fr.setCell (S := fun k => k = b) (Fr.refl _ _) (fun _ => rfl) _
  refine ⟨newO o w.heap.size 1, ⟨A1, n + n2, c1, by have := hb1.set_ 1 (.slice A1 (n + n2) c1); simpa using this, hw.fr hset ?_, h1.grown ho (Nat.le_refl _) hat rfl, by rw [newO_old hb.lt]; exact h2⟩, To.of_fr ((hf.mono (T := fun k => o k = 1) ?_).setCell (fun _ => h2) _) (fun _ _ h => h) 1⟩
  · rintro ad rfl rfl
    exact own_blk_ne hw.2 hb1 (by decide) (by simp [Value.ownBlock])
  · rintro i _ ⟨ad, rfl, rfl⟩
    exact h1 ad rfl
set_option maxHeartbeats 400000 in
theorem bput_spec (b m d : Nat) (X : Option Addr) (l x : List UInt8) (w : World) (o : Nat → Nat) (h : Buf w o b l) (hx : IsB w X m x) (hm : l.length + m ≤ 1048576) :
    Calls Tryz.prog 197 #[.pointer (some ⟨b, 0, none⟩), .slice X m d] w (BufTo w o b (l ++ x)) := by
  obtain ⟨A, n, c, hb, ho, h1, h2⟩ := h
  have c0 : w.cell? ⟨b, 0, none⟩ = some (.bool true) := hb.cell 0
  have c1 : w.cell? ⟨b, 1, none⟩ = some (.slice A n c) := hb.cell 1
  have c2 : w.cell? ⟨b, 2, none⟩ = some (.int .i64 1048576) := hb.cell 2
  have c3 : w.cell? ⟨b, 3, none⟩ = some (.int .i64 0) := hb.cell 3
  rw [ho.1] at hm
  have hne : ∀ ad, A = some ad → ad.block ≠ b := by
    rintro ad rfl e
    exact own_blk_ne ho.2 hb (by decide) (by simp [Value.ownBlock, e])
  have HO := Lib.hid ho
  have HX := Lib.hid hx
  have HB := Lib.hid hb
  have HN := Lib.hid hne
  have H1 := Lib.hid h1
  have H2 := Lib.hid h2
  have hlt := hb.lt
  clear hb ho hx hne h1 h2
  go_enter Tryz.func197, Tryz.ntmps197
  go_wp2_with (go_at_call 201; refine (berr_spec b _ (by assumption) (by assumption)).mono ?_; rintro e w' ⟨rfl, rfl⟩)
  go_quiet (fail)
  go_wp2_with (at_builtin; refine wpl_app _ rfl (.tmp 8) (.tmp 9) _ rfl 5 _ 1 1 Tryz.underlying29 info_b rfl (by omega) bc_len bc_one _ _ _ _ _ rfl HO.out _ _ _ _ rfl HX.out (by omega) (Nat.zero_le _) ?_; intro A1 d1 w1 hown1 hfr0 hat1; have hfr1 := ((Fr.refl _ w).drewN _).trans hfr0 (fun _ _ h => h); have B1 := HB.out.fr hfr1 (by rintro ⟨ad, h, h'⟩; exact HN.out ad h h'.symm); have f1 := B1.frozen 1; have d1 : w1.cell? ⟨b, 1, none⟩ = some (.slice A n c) := B1.cell 1; have HB1 := Lib.hid B1; clear B1 c0 c1 c2 c3)
  go_end0
  exact ⟨rfl, put_post HB.out HO.out H1.out H2.out hown1 hfr1 hat1 HB1.out⟩
end Go.Proofs.YtfoifdoaleaekaaGreat

namespace Go.Proofs.YtfoifdoaleaekaaGreat
open Go.RowKit Go.Acc

theorem tmod_pos {i n : Int} (hn : 0 < n) (h : 0 ≤ i.tmod n) : i.tmod n = i % n := by
  have h1 := Int.tmod_lt_of_pos i hn
  have h2 : (i.tmod n) % n = i % n := by rw [Int.tmod_def, Int.sub_emod, Int.mul_emod_right]; simp
  rw [← h2, Int.emod_eq_of_lt h h1]
theorem tmod_neg {i n : Int} (hn : 0 < n) (h : i.tmod n < 0) : i.tmod n + n = i % n ∧ 0 ≤ i.tmod n + n := by
  have h1 : -n < i.tmod n := by
    have := Int.lt_tmod_of_pos i hn
    omega
  have h2 : (i.tmod n + n) % n = i % n := by rw [Int.add_emod_right, Int.tmod_def, Int.sub_emod, Int.mul_emod_right]; simp
  exact ⟨by rw [← h2, Int.emod_eq_of_lt (by omega) (by omega)], by omega⟩
set_option maxHeartbeats 400000 in
theorem bring_spec (i n : Int) (w : World) (h0 : 0 < n) (hn : n ≤ 9223372036854775807):
    Calls Tryz.prog 12 #[.int .i64 i, .int .i64 n] w fun e w' => e = .returned (.int .i64 (i % n)) ∧ w = w' := by
  by_cases h : 0 ≤ i.tmod n
  · have H := Lib.hid (tmod_pos h0 h)
    go_enter Tryz.func12, Tryz.ntmps12
    go_wp2
    go_ret
    exact ⟨ret_int H.out, rfl⟩
  · have h' : i.tmod n < 0 := by omega
    have H := Lib.hid (tmod_neg h0 h').1
    have hlo := (tmod_neg h0 h').2
    clear h
    go_enter Tryz.func12, Tryz.ntmps12
    go_wp2
    go_ret
    exact ⟨ret_int H.out, rfl⟩
/-- One of the four widths. -/
def wd (n : Int) : Nat := 2 ^ (n % 4).toNat
end Go.Proofs.YtfoifdoaleaekaaGreat

namespace Go.Proofs.YtfoifdoaleaekaaGreat
open Go.RowKit Go.Acc
theorem made_bc (n : Nat) : (madeCells #[.int .u8 0] n).toList = (List.replicate n (0 : UInt8)).flatMap bc := by
  apply List.ext_getElem?
  intro j
  by_cases hj : j < n
  · have h1 := fm_at bc_len (List.replicate n (0 : UInt8)) j 0 (by simpa using hj) (by omega)
    rw [Nat.mul_one, Nat.add_zero, List.getElem_replicate] at h1
    rw [h1]
    simp [madeCells, hj, bc, Nat.mod_one]
  · rw [List.getElem?_eq_none (by simp [madeCells]; omega), List.getElem?_eq_none (by rw [fm_length bc_len]; simp; omega)]
theorem make_b (n : Nat) (hn : n ≤ 1099511627776) : ∃ Z : Array Value, Z.size = n ∧ Z.toList = (List.replicate n (0 : UInt8)).flatMap bc ∧ ∀ W : World, (Instr.makeSlice 29 (.int .i64 (n : Int)) (.int .i64 (n : Int))).run Tryz.prog W = .ok (.slice (some ⟨W.heap.size, 0, none⟩) n n) (W.alloc (.cells Z 5)) := by
  obtain ⟨i, hi, hz, hs, hb⟩ := info_parts info_b
  have hm := made_bc n
  refine ⟨_, ?_, hm, fun W => ?_⟩
  · have := congrArg List.length hm
    rw [fm_length bc_len] at this
    simpa using this
  · have hr := run_make (P := Tryz.prog) W 29 5 i _ Tryz.underlying29 hi hz .i64 .i64 n n (by omega) (Int.le_refl _) (by rw [hb]; omega) (by omega)
    simp only [Int.toNat_natCast, hs, Nat.mul_one] at hr
    exact hr
theorem ownb_lit (W : World) (Z : Array Value) (n B : Nat) (l : List UInt8) (hB : B ≤ W.heap.size) (hn : l.length = n) (hm : n ≤ 1099511627776) (hZ : Z.toList = l.flatMap bc) : OwnB (W.alloc (.cells Z 5)) B (some ⟨W.heap.size, 0, none⟩) n n l := by
  refine ⟨hn, ?_⟩
  have hs : Z.size = n * 1 := by rw [← Array.length_toList, hZ, fm_length bc_len, hn]
  have := World.ownsRow_lit (base := B) (e := 5) (size := 1) W Z n hB (by simp only [maxLen]; omega) hs
  rw [hZ] at this
  exact this
theorem ownb_at {W : World} {g : Nat} (Z : Array Value) (n : Nat) (l : List UInt8) (hg : W.heap.size = g) (hn : l.length = n) (hm : n ≤ 1099511627776) (hZ : Z.toList = l.flatMap bc) : OwnB (W.alloc (.cells Z 5)) g (some ⟨g, 0, none⟩) n n l := by
  subst hg
  exact ownb_lit W Z n _ l (Nat.le_refl _) hn hm hZ
end Go.Proofs.YtfoifdoaleaekaaGreat

namespace Go.Proofs.YtfoifdoaleaekaaGreat
open Go.RowKit Go.Acc
set_option maxHeartbeats 400000 in
theorem wcode_spec (x : Int) (w : World) (h : isW x = true) : Calls Tryz.prog 84 #[.int .i64 x] w fun e w' => (∃ c : Int, e = .returned (.tuple #[.int .i64 c, .int .i64 0])) ∧ w = w' := by
  rcases isW_iff.1 h with rfl | rfl | rfl | rfl
  all_goals
    clear h
    go_enter Tryz.func84, Tryz.ntmps84
    go_wp2
    refine wp_loop_rounds 5 ?_
    repeat (rw [rounds_succ]; go_wp2)
    all_goals
      go_ret2
      exact ⟨⟨_, rfl⟩, rfl⟩
theorem bwith_spec (b : Nat) (x : Int) (F : Nat) (caps : Array Value) (w : World) (R : Ending → World → Prop) (hx : isW x = true)
    (hF : ∀ (args : Array Value) (w : World), (callFunc F args).run Tryz.prog w = .ok (.enter F args) w)
    (h : Calls Tryz.prog F caps w fun e w' => e = .returned (.tuple #[]) ∧ R e w') :
    Calls Tryz.prog 195 #[.pointer (some ⟨b, 0, none⟩), .int .i64 x, .func (.func F) #[] caps] w R := by
  have HX := Lib.hid hx
  have HC := Lib.hid h
  clear hx h
  go_enter Tryz.func195, Tryz.ntmps195
  go_wp2_with (go_at_call 84; refine (wcode_spec x _ HX.out).mono ?_; rintro e w' ⟨⟨c, rfl⟩, rfl⟩)
  refine HC.out.mono ?_
  rintro e w' ⟨rfl, hR⟩
  have HR := Lib.hid hR
  clear hR hF
  go_wp2
  go_end0
  exact HR.out
end Go.Proofs.YtfoifdoaleaekaaGreat

namespace Go.Proofs.YtfoifdoaleaekaaGreat
open Go.RowKit Go.Acc
theorem pad_tmod (n y : Nat) (hy : 0 < y) : ∃ r p : Nat, (n : Int).tmod y = r ∧ r < y ∧ ((y : Int) - (r : Int)).tmod y = p ∧ padN y n = p := by
  have h1 : (n : Int).tmod y = ((n % y : Nat) : Int) := by rw [Int.tmod_eq_emod_of_nonneg (by omega)]; rfl
  have h2 := Nat.mod_lt n hy
  refine ⟨n % y, padN y n, h1, h2, ?_, rfl⟩
  rw [show (y : Int) - ((n % y : Nat) : Int) = ((y - n % y : Nat) : Int) by omega, Int.tmod_eq_emod_of_nonneg (by omega)]
  rfl
theorem wrap_in (n : Int) (h : -9223372036854775808 ≤ n ∧ n ≤ 9223372036854775807) : IntKind.i64.wrap n = n := by rw [IntKind.wrap_i64]; omega
theorem bisb_drew {w : World} {A : Option Addr} {n : Nat} {l : List UInt8} (h : IsB w A n l) : IsB w.drew A n l := h
set_option maxRecDepth 100000 in
set_option maxHeartbeats 1000000 in
theorem balign1_spec (bx bw b y : Nat) (l : List UInt8) (w : World) (o : Nat → Nat) (h : Buf w o b l) (hx : Blk w bx 151 #[.pointer (some ⟨b, 0, none⟩)]) (hw : Blk w bw 3 #[.int .i64 (y : Int)]) (hy : isW (y : Int) = true) (ox : o bx ≠ 1) (ow : o bw ≠ 1) (hm : l.length + 7 ≤ 1048576) :
    Calls Tryz.prog 196 #[.pointer (some ⟨bx, 0, none⟩), .pointer (some ⟨bw, 0, none⟩)] w (BufTo w o b (alignB y l)) := by
  have x0 : w.cell? ⟨bx, 0, none⟩ = some (.pointer (some ⟨b, 0, none⟩)) := hx.cell 0
  have w0 : w.cell? ⟨bw, 0, none⟩ = some (.int .i64 (y : Int)) := hw.cell 0
  obtain ⟨n, hn⟩ : ∃ n, l.length = n := ⟨_, rfl⟩
  have hn' : n ≤ 1048576 := by omega
  have hy8 : 1 ≤ y ∧ y ≤ 8 := by have := isW_iff.1 hy; omega
  obtain ⟨r, p, e1, hr, e2, e3⟩ := pad_tmod n y (by omega)
  have hp7 : p ≤ 7 := by rw [← e3]; exact padN_le n hy8.2
  have hy0 : (0 : Int) < (y : Int) := by omega
  have hyn : ¬ y = 0 := by omega
  have hy9 : (y : Int) ≤ 8 := by omega
  have hr0 : (0 : Int) ≤ (r : Int) := by omega
  have hr1 : (r : Int) < (y : Int) := by omega
  have hp0 : (0 : Int) ≤ (p : Int) := by omega
  have hp1 : (p : Int) ≤ 7 := by omega
  obtain ⟨Z, hZ1, hZ2, hmk⟩ := make_b p (by omega)
  have HZ2 := Lib.hid hZ2
  have HZ1 := Lib.hid hZ1
  clear hZ1 hZ2
  have HY := Lib.hid hy
  have H := Lib.hid h
  have HNN := Lib.hid hn
  have HP := Lib.hid e3
  have HL := Lib.hid (show l.length + p ≤ 1048576 by omega)
  clear hx hw hy h hn hm e3
  have hwr : IntKind.i64.wrap ((y : Int) - (r : Int)) = (y : Int) - (r : Int) := wrap_in ((y : Int) - (r : Int)) (by omega)
  go_enter Tryz.func196, Tryz.ntmps196
  have HI := Lib.hid (ownb_lit w Z p 0 (List.replicate p (0 : UInt8)) (Nat.zero_le _) (by simp) (by omega) HZ2.out).is
  go_region_held3 (fun w' => w'.cell? ⟨bx, 0, none⟩ = some (.pointer (some ⟨b, 0, none⟩)) ∧ w'.cell? ⟨bw, 0, none⟩ = some (.int .i64 (y : Int))) (first | with_reducible exact ⟨x0, w0⟩ | with_reducible exact ⟨kdrew x0, kdrew w0⟩ | with_reducible exact ⟨kdrew (kalloc _ x0), kdrew (kalloc _ w0)⟩ | with_reducible exact ⟨x1, w1⟩) (first | (go_at_call 129; (with_reducible refine (blen_is n H.out.drew HNN.out).mono ?_); rintro e w' ⟨rfl, rfl⟩) | (go_at_call 197; (with_reducible refine (bput_spec b p p _ l (List.replicate p (0 : UInt8)) _ o (H.out.alloc _).drew (bisb_drew HI.out) HL.out).mono ?_); rintro e w' ⟨rfl, o', hB, hT⟩; have x1 := hT.cell (kdrew (kalloc _ x0)) ox; have w1 := hT.cell (kdrew (kalloc _ w0)) ow; have HB := Lib.hid hB; have HT := Lib.hid hT; clear hB hT))
  go_end0
  have e3 : alignB y l = l ++ List.replicate p 0 := by unfold alignB; rw [HNN.out, HP.out]
  rw [e3]
  exact ⟨rfl, o', HB.out, To.from_pure ((Below.refl _ _).alloc (Nat.le_refl _) _) HT.out.from_drew⟩
set_option maxHeartbeats 1000000 in
theorem balign_spec (b y : Nat) (l : List UInt8) (w : World) (o : Nat → Nat) (h : Buf w o b l) (hy : isW (y : Int) = true) (hm : l.length + 7 ≤ 1048576) :
    Calls Tryz.prog 130 #[.pointer (some ⟨b, 0, none⟩), .int .i64 (y : Int)] w (BufTo w o b (alignB y l)) := by
  have H := Lib.hid h
  have HY := Lib.hid hy
  clear h hy
  go_enter Tryz.func130, Tryz.ntmps130
  go_wp2_with fail
  have hB : Below w.heap.size w ((w.alloc (.cells #[.pointer (some ⟨b, 0, none⟩)] 151)).alloc (.cells #[.int .i64 (y : Int)] 3)) := ((Below.refl _ _).alloc (Nat.le_refl _) _).alloc (by simp) _
  have hK1 := (Blk.new w 151 #[.pointer (some ⟨b, 0, none⟩)]).alloc (.cells #[.int .i64 (y : Int)] 3)
  have hK2 := blk_new2 w (.cells #[.pointer (some ⟨b, 0, none⟩)] 151) 3 #[.int .i64 (y : Int)]
  have HBW := Lib.hid hB
  refine (bwith_spec b y 196 _ _ _ HY.out Tryz.call196 ((balign1_spec w.heap.size (w.heap.size + 1) b y l _ (newO o w.heap.size 0) (H.out.fresh hB 0) hK1 hK2 HY.out (by rw [newO_new (by omega)]; omega) (by rw [newO_new (by omega)]; omega) hm).mono fun e w' h => ⟨h.1, h⟩)).mono ?_
  rintro e w' ⟨rfl, o', hB', hT⟩
  have HE := Lib.hid (show BufTo w o b (alignB y l) (.returned (.tuple #[])) w' from BufTo.from_fresh HBW.out ⟨rfl, o', hB', hT⟩)
  clear hB hK1 hK2 hB' hT HBW
  go_wp2
  go_end0
  exact HE.out
end Go.Proofs.YtfoifdoaleaekaaGreat

namespace Go.Proofs.YtfoifdoaleaekaaGreat
open Go.RowKit Go.Acc
theorem blk_new3 (w : World) (o o' : Obj) (t : TypeId) (cs : Array Value) : Blk (((w.alloc o).alloc o').alloc (.cells cs t)) (w.heap.size + 1 + 1) t cs := by
  have h := blk_new2 (w.alloc o) o' t cs
  have e : (w.alloc o).heap.size = w.heap.size + 1 := by simp
  rw [e] at h
  exact h
set_option maxHeartbeats 1000000 in
theorem bnum1_spec (bx bw bu b y u : Nat) (l : List UInt8) (w : World) (o : Nat → Nat) (h : Buf w o b l) (hx : Blk w bx 151 #[.pointer (some ⟨b, 0, none⟩)]) (hw : Blk w bw 3 #[.int .i64 (y : Int)]) (hu : Blk w bu 22 #[.int .u64 (u : Int)])
    (hy : isW (y : Int) = true) (hf : fitsU y u = true) (hu64 : (u : Int) < 18446744073709551616) (hm : l.length + y ≤ 1048576) :
    Calls Tryz.prog 198 #[.pointer (some ⟨bw, 0, none⟩), .pointer (some ⟨bu, 0, none⟩), .pointer (some ⟨bx, 0, none⟩)] w (BufTo w o b (l ++ leBytes y u)) := by
  have w0 : w.cell? ⟨bw, 0, none⟩ = some (.int .i64 (y : Int)) := hw.cell 0
  have u0 : w.cell? ⟨bu, 0, none⟩ = some (.int .u64 (u : Int)) := hu.cell 0
  have H := Lib.hid h
  have HX := Lib.hid hx
  have HU := Lib.hid hu64
  have e1 : putE (y : Int) (fitsU (y : Int).toNat u) = 0 := by
    rw [show (y : Int).toNat = y from rfl, hf]; simp [putE, hy]
  have e2 : putB [] (y : Int) u (fitsU (y : Int).toNat u) = leBytes y u := by
    rw [show (y : Int).toNat = y from rfl, hf]; simp [putB, hy]
  have hP := put_spec none 0 0 u (y : Int) [] w (Is.nil _ _) (Nat.le_refl _) (by omega) hu64
  rw [e1, e2] at hP
  have HP := Lib.hid hP
  clear h hx hw hu hy hf hu64 e1 e2 hP
  go_enter Tryz.func198, Tryz.ntmps198
  go_wp2_with fail
  go_at_call 199
  refine HP.out.mono ?_
  rintro e w1 ⟨A, n, c, rfl, hO, hB⟩
  have hn : n = y := by rw [← hO.1, leBytes_length]
  have x1 : w1.cell? ⟨bx, 0, none⟩ = some (.pointer (some ⟨b, 0, none⟩)) := (HX.out.pure hB).cell 0
  have HI := Lib.hid (show IsB w1 A y (leBytes y u) by have h := hO.is; rw [hn] at h; exact h)
  have HN := Lib.hid hn
  have H1 := Lib.hid (H.out.pure hB)
  have HB := Lib.hid hB
  clear hO hB w0 u0 hn
  rw [HN.out]
  go_wp2_with fail
  go_at_call 197
  refine (bput_spec b y _ _ l (leBytes y u) _ o H1.out HI.out hm).mono ?_
  intro e w2 hB2
  obtain rfl := hB2.1
  have HB2 := Lib.hid hB2
  clear hB2
  go_wp2
  go_end0
  exact HB2.out.from_pure HB.out
set_option maxHeartbeats 1000000 in
theorem bnum_spec (b y u : Nat) (l : List UInt8) (w : World) (o : Nat → Nat) (h : Buf w o b l) (hy : isW (y : Int) = true) (hf : fitsU y u = true) (hu64 : (u : Int) < 18446744073709551616) (hm : l.length + y ≤ 1048576) :
    Calls Tryz.prog 133 #[.pointer (some ⟨b, 0, none⟩), .int .i64 (y : Int), .int .u64 (u : Int)] w (BufTo w o b (l ++ leBytes y u)) := by
  have H := Lib.hid h
  have HY := Lib.hid hy
  have HF := Lib.hid hf
  have HU := Lib.hid hu64
  clear h hy hf hu64
  go_enter Tryz.func133, Tryz.ntmps133
  go_wp2_with fail
  have hB : Below w.heap.size w (((w.alloc (.cells #[.pointer (some ⟨b, 0, none⟩)] 151)).alloc (.cells #[.int .i64 (y : Int)] 3)).alloc (.cells #[.int .u64 (u : Int)] 22)) := (((Below.refl _ _).alloc (Nat.le_refl _) _).alloc (by simp) _).alloc (by simp; omega) _
  have hK1 := ((Blk.new w 151 #[.pointer (some ⟨b, 0, none⟩)]).alloc (.cells #[.int .i64 (y : Int)] 3)).alloc (.cells #[.int .u64 (u : Int)] 22)
  have hK2 := (blk_new2 w (.cells #[.pointer (some ⟨b, 0, none⟩)] 151) 3 #[.int .i64 (y : Int)]).alloc (.cells #[.int .u64 (u : Int)] 22)
  have hK3 := blk_new3 w (.cells #[.pointer (some ⟨b, 0, none⟩)] 151) (.cells #[.int .i64 (y : Int)] 3) 22 #[.int .u64 (u : Int)]
  have HBW := Lib.hid hB
  refine (bwith_spec b y 198 _ _ _ HY.out Tryz.call198 ((bnum1_spec w.heap.size (w.heap.size + 1) (w.heap.size + 1 + 1) b y u l _ o (H.out.pure hB) hK1 hK2 hK3 HY.out HF.out HU.out hm).mono fun e w' h => ⟨h.1, h⟩)).mono ?_
  rintro e w' ⟨rfl, o', hB', hT⟩
  have HE := Lib.hid (show BufTo w o b (l ++ leBytes y u) (.returned (.tuple #[])) w' from BufTo.from_pure HBW.out ⟨rfl, o', hB', hT⟩)
  clear hB hK1 hK2 hK3 hB' hT HBW
  go_wp2
  go_end0
  exact HE.out
/-- A string's cell. -/
def stc (s : List UInt8) : List Value := [.string ⟨s.toArray⟩]
theorem stc_len (s : List UInt8) : (stc s).length = 1 := rfl
theorem stc_one (s : List UInt8) : ∀ u ∈ stc s, u.oneCell' = true := by
  intro u hu
  simp [stc] at hu
  subst hu
  rfl
abbrev IsS := Is stc
theorem iss_at {w : World} {A : Option Addr} {n : Nat} {l : List (List UInt8)} (h : IsS w A n l) {k : Nat} (hk : k < n) :
    ∃ b off, A = some ⟨b, off, none⟩ ∧ ∃ hk : k < l.length, w.cell? ⟨b, off + k, none⟩ = some (.string ⟨l[k].toArray⟩) := by
  obtain ⟨b, off, e, hk', hc⟩ := h.at_ stc_len (by omega) hk
  exact ⟨b, off, e, hk', by have := hc 0 (by omega); simpa [stc] using this⟩
theorem flat_take (l : List (List UInt8)) {k : Nat} (hk : k < l.length) : (l.take (k + 1)).flatten = (l.take k).flatten ++ l[k] := by
  rw [List.take_succ_eq_append_getElem hk, List.flatten_append]; simp
theorem flat_le (l : List (List UInt8)) (k : Nat) : (l.take k).flatten.length ≤ l.flatten.length := by
  conv => rhs; rw [← List.take_append_drop k l]
  rw [List.flatten_append, List.length_append]; omega
set_option maxHeartbeats 400000 in
theorem bsum_spec (A : Option Addr) (n c : Nat) (l : List (List UInt8)) (w : World) (h : IsS w A n l) (hm : l.flatten.length ≤ 1048576) (hn : n ≤ 1048576) :
    Calls Tryz.prog 202 #[.slice A n c] w fun e w' => e = .returned (.int .i64 (l.flatten.length : Int)) ∧ ∃ nd, w' = w.drewN nd := by
  go_enter Tryz.func202, Tryz.ntmps202
  go_wp2
  go_loopw [2, 7] (fun s i wr => ∃ k : Nat, k ≤ n ∧ i = .int .i64 k ∧ s = .int .i64 ((l.take k).flatten.length : Int) ∧ ∃ nd, wr = w.drewN nd) (fun _ i _ => n - (intOf i).toNat)
  case atStart => exact ⟨0, Nat.zero_le _, rfl, rfl, 0, rfl⟩
  case round =>
    obtain ⟨k, hk, rfl, rfl, nd, rfl⟩ := hrel
    by_cases hlt : k < n
    · obtain ⟨b1, o1, rfl, hk1, a0⟩ := iss_at h hlt
      have hs := Lib.hid (flat_take l hk1)
      have h1 := flat_le l (k + 1)
      rw [hs.out, List.length_append] at h1
      generalize hP : (l.take k).flatten.length = P at *
      have HPP := Lib.hid hP
      clear hP h
      go_wp2
      go_roundw
      case rel => exact ⟨k + 1, by omega, by go_num, by rw [hs.out, List.length_append, HPP.out]; go_num, ⟨_, rfl⟩⟩
      case measure => simp [intOf]; omega
    · have hk' : k = n := by omega
      have e := Lib.hid (show (l.take k).flatten.length = l.flatten.length by rw [hk', List.take_of_length_le (by rw [h.1]; exact Nat.le_refl _)])
      clear h hk'
      go_wp2
      go_ret
      exact ⟨by rw [e.out]; rfl, nd, rfl⟩
end Go.Proofs.YtfoifdoaleaekaaGreat

namespace Go.Acc
open Go.RowKit Go.ChangeShapes Go.WideShapes Go.Deep

section
variable {H : Type} {enc : TypeId × Value → H} {P : Program} {W W' : World}
theorem below_arg {t : TypeId} (hl : laidOutB P = true) (hr : P.readableRec t = true) (hrow : t < P.types.size) {v : Value} {d : DataW H} {ps : List MemPlace}
    (h : DataW.Trod enc P W 0 (fun _ => true) true t v d ps) (hb : Below W.heap.size W W') : DataW.Trod enc P W' 0 (fun b => decide (b < W.heap.size)) true t v d ps :=
  Below.trod hl hr hrow h hb (by obtain ⟨m, hm⟩ := h; exact DataW.trod_lt m _ _ _ hm)

/-- An integer's bounds. -/
theorem i64_bd {n : Int} (h : (Lit.int .i64 n).wf = true) : -9223372036854775808 ≤ n ∧ n ≤ 9223372036854775807 := by
  simp [Lit.wf, IntKind.min, IntKind.max, IntKind.signed, IntKind.bits] at h
  exact ⟨by omega, by omega⟩
theorem u64_bd {n : Int} (h : (Lit.int .u64 n).wf = true) : 0 ≤ n ∧ n ≤ 18446744073709551615 := by
  simp [Lit.wf, IntKind.min, IntKind.max, IntKind.signed, IntKind.bits] at h
  exact ⟨by omega, by omega⟩
/-- Elements found one by one make a list. -/
theorem list_of {α : Type} (p : Nat → α → Prop) (n : Nat) (h : ∀ i, i < n → ∃ x, p i x) : ∃ l : List α, l.length = n ∧ ∀ i (hi : i < l.length), p i l[i] := by
  induction n with
  | zero => exact ⟨[], rfl, fun i hi => by simp at hi⟩
  | succ n ih =>
    obtain ⟨l, hl, hp⟩ := ih fun i hi => h i (by omega)
    obtain ⟨x, hx⟩ := h n (by omega)
    refine ⟨l ++ [x], by simp [hl], fun i hi => ?_⟩
    by_cases hin : i < l.length
    · rw [List.getElem_append_left hin]; exact hp i hin
    · have : i = n := by simp at hi; omega
      subst this
      rw [List.getElem_append_right (by omega)]
      simpa [hl] using hx

theorem add_spot {w : World} {a : Addr} {u : Value} (h : w.cell? a = some u) : a = ⟨a.block, a.off, none⟩ := by
  have := spot_of_cell h
  cases a
  simp_all

/-- A slice whose elements read, one by one, as elements of f. -/
theorem is_of_elems {α : Type} {f : α → List Value} {sz : Nat} (hf : ∀ x, (f x).length = sz) (hz : 0 < sz) {w : World} {a : Addr} {n : Nat} (q : α → Prop)
    (h : ∀ i, i < n → ∃ x, q x ∧ ∀ j, j < sz → w.cell? (a.add (i * sz + j)) = (f x)[j]?) : ∃ l, Is f w (some a) n l ∧ ∀ x ∈ l, q x := by
  obtain ⟨l, hl, hp⟩ := list_of _ n h
  refine ⟨l, ⟨hl, fun t u hu => ?_⟩, fun x hx => ?_⟩
  · have ht : t < n * sz := by
      have := (List.getElem?_eq_some_iff.1 hu).1
      rw [fm_length hf, hl] at this
      exact this
    have hpos : 0 < n := by
      rcases Nat.eq_zero_or_pos n with h0 | h0
      · subst h0; simp at ht
      · exact h0
    have h0 := (hp 0 (by omega)).2 0 hz
    rw [List.getElem?_eq_getElem (by rw [hf]; exact hz)] at h0
    have ha : a = ⟨a.block, a.off, none⟩ := by
      have := add_spot h0
      simpa [Addr.add] using add_spot (w := w) (a := a) (by simpa [Addr.add] using h0)
    have hi : t / sz < l.length := by rw [hl]; exact Nat.div_lt_of_lt_mul (by rw [Nat.mul_comm]; exact ht)
    have hj : t % sz < sz := Nat.mod_lt _ hz
    have e : t / sz * sz + t % sz = t := by rw [Nat.mul_comm]; exact Nat.div_add_mod t sz
    have hc := (hp _ hi).2 _ hj
    have hu' := fm_at hf l (t / sz) (t % sz) hi hj
    rw [e, hu] at hu'
    rw [e, ← hu'] at hc
    refine ⟨a.block, a.off, by rw [← ha], ?_⟩
    rw [ha, add_none] at hc
    exact hc
  · obtain ⟨i, hi, rfl⟩ := List.mem_iff_getElem.1 hx
    exact (hp i hi).1

variable {w : World} {base : Nat} {spare : Nat → Bool} {held : Bool}
end
end Go.Acc
