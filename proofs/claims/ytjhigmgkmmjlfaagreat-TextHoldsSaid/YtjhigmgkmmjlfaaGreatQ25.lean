/-
  Package encode: Build of a node without children.
  Package encode: the calls for a key, a string, a blob; Build where Check finds an error.
  Package text: the first byte 00, the library's IndexByte and Equal, the types as bytes.
  Package text: the types as bytes.
  Package text: a key, a counted text.
  The head of an argument, b[:min(len(b), N)], under one name.
-/
import Derived.Test.YtjhigmgkmmjlfaaGreatQ24
import Derived.Lib.BytesEntry
namespace Go.Proofs.YtjhigmgkmmjlfaaGreat
open Go.RowKit Go.Acc
/-- A document is made. -/
def DocW (w : World) (m : List UInt8) (e : Ending) (w' : World) : Prop := ∃ A n c, e = .returned (.tuple #[.slice A n c, .int .i64 0]) ∧ OwnB w' w.heap.size A n c m ∧ Below w.heap.size w w'
theorem docw_lift {w W : World} {m : List UInt8} {e : Ending} {w' : World} (hB : Below w.heap.size w W) (h : DocW W m e w') : DocW w m e w' := by
  obtain ⟨A, n, c, he, hO, hB'⟩ := h
  exact ⟨A, n, c, he, hO.rebase hB.size, pure_trans hB hB'⟩
set_option maxRecDepth 100000 in
set_option maxHeartbeats 2000000 in
theorem capped_leaf (fl : Int) (b' : Bd) (v : Bv) (y : Nat) (k n : Int) (u : Nat) (s : List UInt8) (w : World)
    (hS : ∀ W, Calls Tryz.prog 34 #[.agg #[.int .i64 k, .int .i64 n, .int .u64 (u : Int), .string ⟨s.toArray⟩, .slice none 0 0, .slice none 0 0]] W fun e W' => e = .returned (.tuple #[.agg #[.int .i64 k, .int .i64 n, .int .u64 (u : Int), .string ⟨s.toArray⟩, .slice none 0 0, .slice none 0 0], .int .i64 0]) ∧ Below W.heap.size W W')
    (hC : ∀ M W o, BM M fl W o Bd.new → Calls Tryz.prog 93 #[.pointer (some ⟨M.β, 0, none⟩), .agg #[.int .i64 k, .int .i64 n, .int .u64 (u : Int), .string ⟨s.toArray⟩, .slice none 0 0, .slice none 0 0]] W (BTo M fl b' W o)) (hs : b'.s = [v]) (hf : FinOk b'.b v y) :
    Calls Tryz.prog 52 #[.agg #[.int .i64 k, .int .i64 n, .int .u64 (u : Int), .string ⟨s.toArray⟩, .slice none 0 0, .slice none 0 0], .int .i64 fl, .int .i64 1048576] w (DocW w (alignB y b'.b ++ leBytes y (elemN y (alignB y b'.b).length v) ++ [bTag y v, UInt8.ofNat y])) := by
  have HS := Lib.hid hS
  have HC := Lib.hid hC
  have HV := Lib.hid (And.intro hs hf)
  have HB := Lib.hid (show Below w.heap.size w (w.alloc (.cells #[.int .i64 k, .int .i64 n, .int .u64 (u : Int), .string ⟨s.toArray⟩, .slice none 0 0, .slice none 0 0] 26)) from (Below.refl _ _).alloc (Nat.le_refl _) _)
  clear hS hC hs hf
  go_enter Tryz.func52, Tryz.ntmps52
  go_wp2_with fail
  go_at_call 34
  refine (HS.out _).mono ?_
  rintro e w1 ⟨rfl, hb⟩
  have HB1 := Lib.hid (pure_below HB.out hb)
  clear hb
  have hB2 := (Below.refl w1.heap.size w1).alloc (Nat.le_refl _) (.cells #[.int .i64 k, .int .i64 n, .int .u64 (u : Int), .string ⟨s.toArray⟩, .slice none 0 0, .slice none 0 0] 26)
  have HX2 := Lib.hid (Blk.new w1 26 #[.int .i64 k, .int .i64 n, .int .u64 (u : Int), .string ⟨s.toArray⟩, .slice none 0 0, .slice none 0 0])
  have HB2 := Lib.hid (pure_below HB1.out hB2)
  clear hB2
  go_wp2_with fail
  go_at_call 92
  refine (cnew_spec fl _ (fun _ => 0)).mono ?_
  rintro e w3 ⟨M, o3, rfl, hM, hT⟩
  have hb3 := hT.below (fun _ _ h => h)
  have HX3 := Lib.hid (HX2.out.pure hb3)
  have HM3 := Lib.hid hM
  have HT3 := Lib.hid (hT.mono (J := Bld) fun _ h => h.elim)
  have HB3 := Lib.hid (pure_below HB2.out hb3)
  have x0 : w3.cell? ⟨w1.heap.size, 0, none⟩ = some (.int .i64 k) := HX3.out.cell 0
  have x1 : w3.cell? ⟨w1.heap.size, 1, none⟩ = some (.int .i64 n) := HX3.out.cell 1
  have x2 : w3.cell? ⟨w1.heap.size, 2, none⟩ = some (.int .u64 (u : Int)) := HX3.out.cell 2
  have x3 : w3.cell? ⟨w1.heap.size, 3, none⟩ = some (.string ⟨s.toArray⟩) := HX3.out.cell 3
  have x4 : w3.cell? ⟨w1.heap.size, 4, none⟩ = some (.slice none 0 0) := HX3.out.cell 4
  have x5 : w3.cell? ⟨w1.heap.size, 5, none⟩ = some (.slice none 0 0) := HX3.out.cell 5
  clear hM hT hb3
  go_wp2_with fail
  go_at_call 93
  refine (HC.out M _ o3 HM3.out).mono ?_
  rintro e w4 ⟨rfl, o4, hM4, hT4⟩
  have HM4 := Lib.hid hM4
  have HT4 := Lib.hid (HT3.out.trans hT4)
  clear hM4 hT4 x0 x1 x2 x3 x4 x5
  go_wp2_with fail
  go_at_call 94
  refine (finish_spec M fl b' v y _ o4 HM4.out HV.out.1 HV.out.2).mono ?_
  rintro e w5 ⟨A, m, c, rfl, hO, o5, hT5⟩
  have HO := Lib.hid hO
  have HT5 := Lib.hid (HT4.out.trans hT5)
  have HSZ := Lib.hid (show w.heap.size ≤ w4.heap.size from Nat.le_trans HB2.out.size HT4.out.size)
  clear hO hT5
  go_wp2_with fail
  go_ret2
  exact ⟨A, m, c, rfl, HO.out.rebase HSZ.out, pure_below HB2.out (HT5.out.below fun _ _ => bld_0)⟩
set_option maxHeartbeats 2000000 in
theorem build_lift (fl : Int) (k n : Int) (u : Nat) (s : List UInt8) (d : List UInt8) (w : World)
    (h : ∀ W, Calls Tryz.prog 52 #[.agg #[.int .i64 k, .int .i64 n, .int .u64 (u : Int), .string ⟨s.toArray⟩, .slice none 0 0, .slice none 0 0], .int .i64 fl, .int .i64 1048576] W (DocW W d)) :
    Calls Tryz.prog 12 #[.agg #[.int .i64 k, .int .i64 n, .int .u64 (u : Int), .string ⟨s.toArray⟩, .slice none 0 0, .slice none 0 0], .int .i64 fl] w (DocW w d) := by
  have HH := Lib.hid h
  have HB := Lib.hid (show Below w.heap.size w (w.alloc (.cells #[.int .i64 k, .int .i64 n, .int .u64 (u : Int), .string ⟨s.toArray⟩, .slice none 0 0, .slice none 0 0] 26)) from (Below.refl _ _).alloc (Nat.le_refl _) _)
  clear h
  go_enter Tryz.func12, Tryz.ntmps12
  go_wp2_with fail
  go_at_call 52
  refine (HH.out _).mono ?_
  intro e w1 hD
  obtain ⟨A, m, c, rfl, hO, hb⟩ := hD
  have HO := Lib.hid hO
  have HB1 := Lib.hid hb
  clear hO hb
  go_wp2_with fail
  go_ret2
  exact docw_lift HB.out ⟨A, m, c, rfl, HO.out, HB1.out⟩
end Go.Proofs.YtjhigmgkmmjlfaaGreat

namespace Go.Proofs.YtjhigmgkmmjlfaaGreat
open Go.RowKit Go.Acc
set_option maxRecDepth 100000 in
set_option maxHeartbeats 2000000 in
theorem leaft_spec (M : Bp) (fl : Int) (b : Bd) (k n : Int) (u : Nat) (s : List UInt8) (A : Option Addr) (an ac : Nat) (B : Option Addr) (bn bc : Nat) (w : World) (o : Nat → Nat) (h : BM M fl w o b) (hrs : RoomS b s) (hrk : RoomK b s)
    (hk : k = 5 ∨ k = 6 ∨ k = 7) (hz : k = 5 → hasZero s = false) :
    Calls Tryz.prog 145 #[.pointer (some ⟨M.β, 0, none⟩), .agg #[.int .i64 k, .int .i64 n, .int .u64 (u : Int), .string ⟨s.toArray⟩, .slice A an ac, .slice B bn bc]] w (BTo M fl (b.leaf (Go.Proofs.YtjhigmgkmmjlfaaGreat.bits fl) k n u s) w o) := by
  have HB := Lib.hid (show Below w.heap.size w (w.alloc (.cells #[.int .i64 k, .int .i64 n, .int .u64 (u : Int), .string ⟨s.toArray⟩, .slice A an ac, .slice B bn bc] 26)) from (Below.refl _ _).alloc (Nat.le_refl _) _)
  have HM := Lib.hid (h.pure HB.out)
  have HS := Lib.hid hrs
  have HK := Lib.hid hrk
  have HZ := Lib.hid hz
  clear h hrs hrk hz
  rcases hk with rfl | rfl | rfl
  · go_enter Tryz.func145, Tryz.ntmps145
    go_wp2_with fail
    go_at_call 143
    refine (ckey_spec M fl b s _ o HM.out HK.out (HZ.out (by first | rfl | trivial))).mono ?_
    rintro e w2 hR
    obtain rfl := hR.1
    have HR := Lib.hid (hR.from_pure HB.out)
    clear hR
    go_wp2_with fail
    go_end0
    have h := HR.out
    unfold Bd.leaf
    simpa using h
  · go_enter Tryz.func145, Tryz.ntmps145
    go_wp2_with fail
    go_at_call 209
    refine (cstr_spec M fl b s _ o HM.out HS.out).mono ?_
    rintro e w2 hR
    obtain rfl := hR.1
    have HR := Lib.hid (hR.from_pure HB.out)
    clear hR
    go_wp2_with fail
    go_end0
    have h := HR.out
    unfold Bd.leaf
    simpa using h
  · go_enter Tryz.func145, Tryz.ntmps145
    go_wp2_with fail
    go_at_call 210
    refine (cblob_spec M fl b s _ o HM.out HS.out).mono ?_
    rintro e w2 hR
    obtain rfl := hR.1
    have HR := Lib.hid (hR.from_pure HB.out)
    clear hR
    go_wp2_with fail
    go_end0
    have h := HR.out
    unfold Bd.leaf
    simpa using h
set_option maxHeartbeats 2000000 in
theorem capped_err (fl : Int) (ke : Int) (k n : Int) (u : Nat) (s : List UInt8) (w : World) (he : ke ≠ 0)
    (hS : ∀ W, Calls Tryz.prog 34 #[.agg #[.int .i64 k, .int .i64 n, .int .u64 (u : Int), .string ⟨s.toArray⟩, .slice none 0 0, .slice none 0 0]] W fun e W' => e = .returned (.tuple #[.agg #[.int .i64 0, .int .i64 0, .int .u64 0, .string ⟨#[]⟩, .slice none 0 0, .slice none 0 0], .int .i64 ke]) ∧ Below W.heap.size W W') :
    Calls Tryz.prog 52 #[.agg #[.int .i64 k, .int .i64 n, .int .u64 (u : Int), .string ⟨s.toArray⟩, .slice none 0 0, .slice none 0 0], .int .i64 fl, .int .i64 1048576] w fun e w' => e = .returned (.tuple #[.slice none 0 0, .int .i64 ke]) ∧ Below w.heap.size w w' := by
  have HS := Lib.hid hS
  have hne : (ke != 0) = true := by simpa using he
  have HB := Lib.hid (show Below w.heap.size w (w.alloc (.cells #[.int .i64 k, .int .i64 n, .int .u64 (u : Int), .string ⟨s.toArray⟩, .slice none 0 0, .slice none 0 0] 26)) from (Below.refl _ _).alloc (Nat.le_refl _) _)
  clear hS he
  go_enter Tryz.func52, Tryz.ntmps52
  go_wp2_with fail
  go_at_call 34
  refine (HS.out _).mono ?_
  rintro e w1 ⟨rfl, hb⟩
  have HB1 := Lib.hid (pure_below HB.out hb)
  clear hb
  go_wp2_with fail
  go_ret2
  exact ⟨rfl, pure_below HB1.out ((Below.refl _ _).alloc (Nat.le_refl _) _)⟩
set_option maxHeartbeats 2000000 in
theorem build_err (fl : Int) (ke : Int) (k n : Int) (u : Nat) (s : List UInt8) (w : World)
    (h : ∀ W, Calls Tryz.prog 52 #[.agg #[.int .i64 k, .int .i64 n, .int .u64 (u : Int), .string ⟨s.toArray⟩, .slice none 0 0, .slice none 0 0], .int .i64 fl, .int .i64 1048576] W fun e W' => e = .returned (.tuple #[.slice none 0 0, .int .i64 ke]) ∧ Below W.heap.size W W') :
    Calls Tryz.prog 12 #[.agg #[.int .i64 k, .int .i64 n, .int .u64 (u : Int), .string ⟨s.toArray⟩, .slice none 0 0, .slice none 0 0], .int .i64 fl] w fun e w' => e = .returned (.tuple #[.slice none 0 0, .int .i64 ke]) ∧ Below w.heap.size w w' := by
  have HH := Lib.hid h
  have HB := Lib.hid (show Below w.heap.size w (w.alloc (.cells #[.int .i64 k, .int .i64 n, .int .u64 (u : Int), .string ⟨s.toArray⟩, .slice none 0 0, .slice none 0 0] 26)) from (Below.refl _ _).alloc (Nat.le_refl _) _)
  clear h
  go_enter Tryz.func12, Tryz.ntmps12
  go_wp2_with fail
  go_at_call 52
  refine (HH.out _).mono ?_
  rintro e w1 ⟨rfl, hb⟩
  have HB1 := Lib.hid (pure_below HB.out hb)
  clear hb
  go_wp2_with fail
  go_ret2
  exact ⟨rfl, HB1.out⟩
end Go.Proofs.YtjhigmgkmmjlfaaGreat

namespace Go.Proofs.YtjhigmgkmmjlfaaGreat
open Go.RowKit Go.Acc
/-- The first place from a on that holds 00; the length, if there is none. -/
def zeroAt (l : List UInt8) (a : Nat) : Nat := a + (l.drop a).findIdx (· == 0)
theorem zeroAt_hit {l : List UInt8} {k : Nat} (hk : k < l.length) (h : l[k] = 0) : zeroAt l k = k := by
  unfold zeroAt
  rw [List.drop_eq_getElem_cons hk, List.findIdx_cons, h]
  rfl
theorem zeroAt_miss {l : List UInt8} {k : Nat} (hk : k < l.length) (h : l[k] ≠ 0) : zeroAt l (k + 1) = zeroAt l k := by
  unfold zeroAt
  rw [List.drop_eq_getElem_cons hk, List.findIdx_cons]
  have : (l[k] == 0) = false := by simpa using h
  rw [this]
  simp only [cond_false]
  omega
theorem zeroAt_end (l : List UInt8) : zeroAt l l.length = l.length := by
  unfold zeroAt
  simp
theorem zeroAt_le {l : List UInt8} {k : Nat} (hk : k ≤ l.length) : k ≤ zeroAt l k ∧ zeroAt l k ≤ l.length := by
  unfold zeroAt
  have := List.findIdx_le_length (xs := l.drop k) (p := (· == 0))
  rw [List.length_drop] at this
  omega
theorem zeroAt_get {l : List UInt8} {k : Nat} (hk : zeroAt l k < l.length) : l[zeroAt l k] = 0 := by
  unfold zeroAt at hk ⊢
  have h : (l.drop k).findIdx (· == 0) < (l.drop k).length := by rw [List.length_drop]; omega
  have := List.findIdx_getElem (w := h)
  rw [List.getElem_drop] at this
  simpa using this
theorem zeroAt_lt {l : List UInt8} {k j : Nat} (hj : k ≤ j) (hz : j < zeroAt l k) (hl : j < l.length) : l[j] ≠ 0 := by
  unfold zeroAt at hz
  have h : j - k < (l.drop k).findIdx (· == 0) := by omega
  have := List.not_of_lt_findIdx h
  rw [List.getElem_drop] at this
  simp only [show k + (j - k) = j by omega] at this
  simpa using this
set_option maxHeartbeats 400000 in
theorem end_spec (A : Option Addr) (n c a : Nat) (l : List UInt8) (w : World) (h : IsB w A n l) (ha : a ≤ n) (hn : n ≤ 9223372036854775807) :
    Calls Tryz.prog 161 #[.slice A n c, .int .i64 a] w fun e w' => e = .returned (.tuple #[.int .i64 (zeroAt l a : Nat), .bool (decide (zeroAt l a < n))]) ∧ w = w' := by
  have hlen := h.1
  subst hlen
  have HI := Lib.hid h
  clear h
  go_enter Tryz.func161, Tryz.ntmps161
  go_wp2
  go_step3
  go_wp2
  go_step3
  go_wp2
  go_loop [6] (fun i => ∃ k : Nat, k ≤ l.length ∧ i = .int .i64 k ∧ zeroAt l k = zeroAt l a) (fun i => l.length - (intOf i).toNat)
  case atStart => exact ⟨a, ha, rfl, rfl⟩
  case round =>
    obtain ⟨k, hk, rfl, hz⟩ := hrel
    have HZ := Lib.hid hz
    clear hz
    by_cases hlt : k < l.length
    · obtain ⟨b, off, rfl, hkl, hc⟩ := isb_at HI.out hlt
      by_cases h0 : l[k] = 0
      · have HE := Lib.hid (show zeroAt l a = k by rw [← HZ.out, zeroAt_hit hlt h0])
        rw [h0] at hc
        clear h0
        go_wp2
        try rw [Exit.noGoto_ret]
        go_ret2
        rw [HE.out]
        exact ⟨by simp [hlt], rfl⟩
      · have HE := Lib.hid ((zeroAt_miss hlt h0).trans HZ.out)
        have hb : (l[k].toNat == 0) = false := by
          rw [beq_eq_false_iff_ne]
          intro e
          exact h0 (UInt8.toNat_inj.1 e)
        clear h0
        go_wp2
        go_round
        case rel => exact ⟨k + 1, by omega, by go_num, HE.out⟩
        case measure => simp [intOf]; omega
    · obtain rfl : l.length = k := by omega
      have HE := Lib.hid (show zeroAt l a = l.length by rw [← HZ.out, zeroAt_end])
      go_wp2
      try rw [Exit.noGoto_ret]
      go_ret2
      rw [HE.out]
      exact ⟨by simp, rfl⟩
set_option maxHeartbeats 400000 in
theorem bequal_spec (A B : Option Addr) (n n' c d : Nat) (l m : List UInt8) (w : World) (ha : IsB w A n l) (hb : IsB w B n' m) :
    Calls Tryz.prog 162 #[.slice A n c, .slice B n' d] w fun e w' => e = .returned (.bool (eqB l m)) ∧ w = w' := by
  have h1 := run_str (c := c) ha
  have h2 := run_str (c := d) hb
  have H := Lib.hid (show (l == m) = eqB l m by unfold eqB; rw [Bool.eq_iff_iff]; simp)
  clear ha hb
  go_enter Tryz.func162, Tryz.ntmps162
  go_wp2
  go_ret
  exact ⟨ret_bool H.out, rfl⟩

theorem idx_ge (l : List UInt8) (c : UInt8) : -1 ≤ Lib.indexByte l c := by
  induction l with
  | nil => simp [Lib.indexByte]
  | cons b l ih =>
    unfold Lib.indexByte
    split
    · omega
    · split <;> omega
theorem idx_neg (l : List UInt8) (c : UInt8) : decide (Lib.indexByte l c < 0) = !(l.contains c) := by
  induction l with
  | nil => simp [Lib.indexByte]
  | cons b l ih =>
    have hg := idx_ge l c
    unfold Lib.indexByte
    by_cases hb : b = c
    · subst hb
      simp
    · have e1 : (b == c) = false := by simpa using hb
      have e2 : (c == b) = false := by simpa using fun e : c = b => hb e.symm
      rw [e1, List.contains_cons, e2, Bool.false_or, ← ih, if_neg (by simp)]
      split
      · rename_i h
        simp only [beq_iff_eq] at h
        rw [h]
      · rename_i h
        simp only [beq_iff_eq] at h
        rw [Bool.eq_iff_iff]
        simp only [decide_eq_true_eq]
        omega
set_option maxRecDepth 100000 in
set_option maxHeartbeats 400000 in
theorem bidx_spec (A : Option Addr) (n c : Nat) (l : List UInt8) (x : UInt8) (v : Int) (w : World) (h : IsB w A n l) (hn : 0 < n) (hv : v = (x.toNat : Int)) :
    Calls Tryz.prog 107 #[.slice A n c, .int .u8 v] w fun e w' => e = .returned (.int .i64 (Lib.indexByte l x)) ∧ w = w' := by
  subst hv
  have hlen := h.1
  subst hlen
  obtain ⟨b, off, rfl, _⟩ := isb_at h hn
  have hc : ∀ i, i < l.length → w.cell? ⟨b, off + i, none⟩ = some (.int .u8 ((l.map fun x : UInt8 => (x.toNat : Int)).getD i 0)) := by
    intro i hi
    obtain ⟨b', off', e, hk, hc⟩ := isb_at h hi
    injection e with e
    injection e with e1 e2
    subst e1 e2
    rw [hc]
    simp [List.getD_eq_getElem?_getD, hk]
  have hr := Lib.run_indexByteSlice (P := Tryz.prog) w b off l.length c (l.map fun x : UInt8 => (x.toNat : Int)) (by simp) hc (x.toNat : Int)
  have e1 : Lib.bytesOf (l.map fun x : UInt8 => (x.toNat : Int)) = l := by
    unfold Lib.bytesOf
    rw [List.map_map]
    conv => rhs; rw [← List.map_id l]
    exact List.map_congr_left (fun x _ => by simp)
  have e2 : ((x.toNat : Int)).toNat.toUInt8 = x := by simp
  rw [e1, e2] at hr
  clear hc e1 e2 h
  go_enter Tryz.func107, Tryz.ntmps107
  go_wp2
  rw [run_callFunc_extern Tryz.func160 (by kernel_rfl) (by kernel_rfl) (by kernel_rfl) (e := Extern.BytealgIndexByte.indexByte) (by kernel_rfl), hr]
  simp only [Result.andThen]
  rw [Oper.upon_value]
  go_wp2
  go_ret
  exact ⟨rfl, rfl⟩
end Go.Proofs.YtjhigmgkmmjlfaaGreat

namespace Go.Proofs.YtjhigmgkmmjlfaaGreat
open Go.RowKit Go.Acc
def tc (x : Nat) : List Value := [.int .i64 (x : Int)]
theorem tc_at {w : World} {A : Option Addr} {n k : Nat} {l : List Nat} (h : Is tc w A n l) (hk : k < n) : ∃ b off, A = some ⟨b, off, none⟩ ∧ ∃ hk : k < l.length, w.cell? ⟨b, off + k, none⟩ = some (.int .i64 (l[k] : Nat)) := by
  obtain ⟨b, off, e, hk', hc⟩ := h.at_ (fun _ => rfl) (sz := 1) (by omega) hk
  have := hc 0 (by omega)
  rw [Nat.mul_one, Nat.add_zero] at this
  exact ⟨b, off, e, hk', this⟩
set_option maxHeartbeats 1000000 in
theorem asb_spec (A : Option Addr) (n c : Nat) (ts : List Nat) (w : World) (h : Is tc w A n ts) (hn : n ≤ 100) (ht : ∀ t ∈ ts, t < 256) :
    Calls Tryz.prog 108 #[.slice A n c] w (CopiedB w (ts.map UInt8.ofNat)) := by
  have hlen := h.1
  subst hlen
  have HI := Lib.hid h
  have HT := Lib.hid ht
  clear h ht
  go_enter Tryz.func108, Tryz.ntmps108
  go_wp2
  go_loopw [2, 4, 7] (fun o _ i wr => ∃ (k : Nat) (A0 : Option Addr) (c0 : Nat), k ≤ ts.length ∧ i = .int .i64 k ∧ o = .slice A0 k c0 ∧ OwnB wr w.heap.size A0 k c0 ((ts.take k).map UInt8.ofNat) ∧ Below w.heap.size w wr) (fun _ _ i _ => ts.length - (intOf i).toNat)
  case atStart => exact ⟨0, none, 0, by omega, rfl, rfl, Own.nil _ _, Below.refl _ _⟩
  case round =>
    obtain ⟨k, A0, c0, hk, rfl, rfl, hO, hB⟩ := hrel
    have HO := Lib.hid hO
    have HBr := Lib.hid hB
    clear hO hB
    by_cases hlt : k < ts.length
    · obtain ⟨b, off, rfl, hkl, hc⟩ := tc_at (HI.out.pure HBr.out) hlt
      have hx := HT.out ts[k] (List.getElem_mem hkl)
      have htk : (ts.take (k + 1)).map UInt8.ofNat = (ts.take k).map UInt8.ofNat ++ [UInt8.ofNat ts[k]] := by
        rw [List.take_succ_eq_append_getElem hkl, List.map_append]; rfl
      have HTK := Lib.hid htk
      clear htk
      generalize ts[k] = t at hc hx HTK
      have hw : IntKind.u8.wrap (t : Int) = ((UInt8.ofNat t).toNat : Int) := by
        rw [IntKind.wrap_u8, UInt8.toNat_ofNat']
        omega
      go_wp2_with (at_builtin; refine wpl_app _ rfl (.tmp 11) (.tmp 14) _ rfl 5 _ 1 1 Tryz.underlying29 info_b rfl (by omega) bc_len bc_one _ _ _ _ _ rfl (HO.out.pure ((Below.refl _ _).alloc (Nat.le_refl _) _)) _ _ _ _ rfl (isb_new _ _ (UInt8.ofNat t) hw) (by omega) (by have := HBr.out.size; simp; omega) ?_; intro A1 c1 w4 hown hfr hat; have HO1 := Lib.hid hown; have HF1 := Lib.hid hfr; clear hown hfr hat)
      exact ⟨⟨k + 1, A1, c1, by omega, by go_num, rfl, by rw [HTK.out]; exact HO1.out, below_fr (HBr.out.alloc HBr.out.size _) HF1.out (by rintro j ⟨ad, h, rfl⟩; exact (HO.out.addr ad h).2.1)⟩, by simp [intOf]; omega⟩
    · obtain rfl : k = ts.length := by omega
      go_wp2
      go_ret
      rw [List.take_length] at HO
      exact ⟨A0, _, c0, rfl, HO.out, HBr.out⟩

/-- What find returns: the error, the place, the contents. -/
def keyE (l : List UInt8) (a : Nat) : Int := if zeroAt l a < l.length then 0 else 213
def cntE (l : List UInt8) (a v k : Nat) : Int :=
  if a % v ≠ 0 then 212 else if a < v then 211 else if l.length < a + loadU l ((a : Int) - v) v + k then 211
  else if ((l.drop (a + loadU l ((a : Int) - v) v)).take k) = List.replicate k 0 then 0 else 213
def cntL (l : List UInt8) (a v : Nat) : List UInt8 := (l.drop a).take (loadU l ((a : Int) - v) v)
def keyL (l : List UInt8) (a : Nat) : List UInt8 := (l.drop a).take (zeroAt l a - a)
/-- A found value: the place and a slice that reads as the contents wherever the bytes read as l. -/
def FoundW (w : World) (A0 : Option Addr) (n0 : Nat) (l : List UInt8) (a : Int) (m : List UInt8) (er : Int) (e : Ending) (w' : World) : Prop :=
  ∃ A n c, e = .returned (.tuple #[.agg #[.int .i64 a, .slice A n c], .int .i64 er]) ∧ (∀ w0, IsB w0 A0 n0 l → IsB w0 A n m) ∧ n ≤ c ∧ Below w.heap.size w w'
end Go.Proofs.YtjhigmgkmmjlfaaGreat

namespace Go.Proofs.YtjhigmgkmmjlfaaGreat
open Go.RowKit Go.Acc
theorem keyE_no {l : List UInt8} {a : Nat} (h : ¬ zeroAt l a < l.length) : keyE l a = 213 := if_neg h
theorem keyE_yes {l : List UInt8} {a : Nat} (h : zeroAt l a < l.length) : keyE l a = 0 := if_pos h
set_option maxHeartbeats 1000000 in
theorem key_spec (A : Option Addr) (n c a : Nat) (l : List UInt8) (w : World) (h : IsB w A n l) (hc : n ≤ c) (ha : a ≤ n) (hn : n ≤ 9223372036854775807) :
    Calls Tryz.prog 109 #[.slice A n c, .int .i64 a] w (FoundW w A n l (if keyE l a = 0 then a else 0) (if keyE l a = 0 then keyL l a else []) (keyE l a)) := by
  have hlen := h.1
  subst hlen
  have HI := Lib.hid (h.alloc (.cells #[.int .i64 0, .slice none 0 0] 105))
  have HI0 := Lib.hid h
  clear h
  by_cases hz : zeroAt l a < l.length
  · rw [keyE_yes hz, if_pos rfl, if_pos rfl]
    have hzb := zeroAt_le (l := l) ha
    have hz1 := hzb.1
    have HZ := Lib.hid (show keyL l a = (l.drop a).take (zeroAt l a - a) from rfl)
    rw [HZ.out]
    obtain ⟨z, hze⟩ : ∃ z, zeroAt l a = z := ⟨_, rfl⟩
    have HZE := Lib.hid hze
    rw [hze] at hz hz1 ⊢
    clear hzb hze
    by_cases haz : z = a
    · subst haz
      go_enter Tryz.func109, Tryz.ntmps109
      go_wp2_with fail
      go_at_call 161
      refine (end_spec A _ c z l _ HI.out ha hn).mono ?_
      rw [HZE.out]
      rintro e w1 ⟨rfl, rfl⟩
      go_wp2
      refine bodyPost_ret (v := .tuple #[.agg #[.int .i64 z, .slice A 0 0], .int .i64 0]) (by simp [results, Tryz.results109, go_sem]) rfl ⟨A, 0, 0, rfl, ?_, Nat.le_refl _, ?_⟩
      · rw [Nat.sub_self, List.take_zero]
        exact fun _ _ => Is.nil _ _
      · exact (Below.refl _ _).alloc (Nat.le_refl _) _
    · have hlt : a < z := by omega
      have hza : ¬ z = a := haz
      go_enter Tryz.func109, Tryz.ntmps109
      go_wp2_with fail
      go_at_call 161
      refine (end_spec A _ c a l _ HI.out ha hn).mono ?_
      rw [HZE.out]
      rintro e w1 ⟨rfl, rfl⟩
      go_wp2
      refine bodyPost_ret (v := .tuple #[.agg #[.int .i64 a, .slice (A.map fun p => p.add a) (z - a) (z - a)], .int .i64 0]) (by simp [results, Tryz.results109, go_sem]) rfl ⟨_, _, _, rfl, ?_, Nat.le_refl _, ?_⟩
      · exact fun _ h => isb_part h (by omega)
      · exact (Below.refl _ _).alloc (Nat.le_refl _) _
  · rw [keyE_no hz, if_neg (by decide), if_neg (by decide)]
    go_enter Tryz.func109, Tryz.ntmps109
    go_wp2_with fail
    go_at_call 161
    refine (end_spec A _ c a l _ HI.out ha hn).mono ?_
    rintro e w1 ⟨rfl, rfl⟩
    go_wp2
    refine bodyPost_ret (v := .tuple #[.agg #[.int .i64 0, .slice none 0 0], .int .i64 213]) (by simp [results, Tryz.results109, go_sem]) rfl ⟨none, 0, 0, rfl, fun _ _ => Is.nil _ _, Nat.le_refl _, ?_⟩
    exact (Below.refl _ _).alloc (Nat.le_refl _) _
end Go.Proofs.YtjhigmgkmmjlfaaGreat

namespace Go.Proofs.YtjhigmgkmmjlfaaGreat
open Go.RowKit Go.Acc
theorem cut_run (A : Option Addr) (n c M : Nat) (h : M ≤ c) (w : World) : (Instr.sliceAt 29 (.slice A n c) none (some (.int .i64 M)) none).run Tryz.prog w = .ok (.slice A M c) w := by
  have ht : Tryz.prog.underlying 29 = some (.slice (Tryz.prog.elem 29)) := by kernel_rfl
  have hz : (sizeOf (Tryz.prog.elem 29)).run Tryz.prog w = .ok 1 w := by kernel_rfl
  rw [run_sliceAt_slice (h := ht), run_slice_h (ht := ht) (h0 := by omega) (h2 := by omega), hz]
  simp [Result.andThen, sliced]
  intro _
  cases A <;> simp [Addr.add]
theorem cut_facts (A : Option Addr) (n c B : Nat) (b : Int) (hb : b = B) (hc : n ≤ c) : ∃ M : Nat, M ≤ n ∧ M ≤ B ∧ (if b < (n : Int) then b else (n : Int)) = (M : Int) ∧
    ∀ w, (Instr.sliceAt 29 (.slice A n c) none (some (.int .i64 M)) none).run Tryz.prog w = .ok (.slice A M c) w := by
  subst hb
  by_cases h : n ≤ B
  · exact ⟨n, Nat.le_refl _, h, if_neg (by omega), fun w => cut_run A n c n hc w⟩
  · exact ⟨B, by omega, Nat.le_refl _, if_pos (by omega), fun w => cut_run A n c B (by omega) w⟩
/-- b[lo:hi], its address under one name. -/
theorem cut_any (A : Option Addr) (n c lo hi : Nat) (h1 : lo ≤ hi) (h2 : hi ≤ n) (hc : n ≤ c) : ∃ X, (∀ w, (Instr.sliceAt 29 (.slice A n c) (some (.int .i64 lo)) (some (.int .i64 hi)) none).run Tryz.prog w = .ok (.slice X (hi - lo) (c - lo)) w) ∧
    ∀ w l, IsB w A n l → IsB w X (hi - lo) ((l.drop lo).take (hi - lo)) := by
  refine ⟨if c = lo then A else A.map (·.add lo), fun w => ?_, fun w l h => ?_⟩
  · have ht : Tryz.prog.underlying 29 = some (.slice (Tryz.prog.elem 29)) := by kernel_rfl
    have hz : (sizeOf (Tryz.prog.elem 29)).run Tryz.prog w = .ok 1 w := by kernel_rfl
    rw [run_sliceAt_slice (h := ht), run_slice_lh (ht := ht) (h0 := by omega) (h1 := by omega) (h2 := by omega), hz]
    simp [Result.andThen, sliced]
  · split
    · have e : hi - lo = 0 := by omega
      rw [e, List.take_zero]
      exact Is.nil _ _
    · exact isb_part h (by omega)
/-- b[lo:hi:hi], its address under one name. -/
theorem cut_full (A : Option Addr) (n c lo hi : Nat) (h1 : lo ≤ hi) (h2 : hi ≤ n) (hc : n ≤ c) : ∃ X, (∀ w, (Instr.sliceAt 29 (.slice A n c) (some (.int .i64 lo)) (some (.int .i64 hi)) (some (.int .i64 hi))).run Tryz.prog w = .ok (.slice X (hi - lo) (hi - lo)) w) ∧
    ∀ w l, IsB w A n l → IsB w X (hi - lo) ((l.drop lo).take (hi - lo)) := by
  refine ⟨if hi = lo then A else A.map (·.add lo), fun w => ?_, fun w l h => ?_⟩
  · have ht : Tryz.prog.underlying 29 = some (.slice (Tryz.prog.elem 29)) := by kernel_rfl
    have hz : (sizeOf (Tryz.prog.elem 29)).run Tryz.prog w = .ok 1 w := by kernel_rfl
    rw [run_sliceAt_slice (h := ht), run_slice_lhm (ht := ht) (h0 := by omega) (h1 := by omega) (h2 := by omega) (h3 := by omega), hz]
    simp [Result.andThen, sliced]
  · split
    · have e : hi - lo = 0 := by omega
      rw [e, List.take_zero]
      exact Is.nil _ _
    · exact isb_part h (by omega)
end Go.Proofs.YtjhigmgkmmjlfaaGreat
