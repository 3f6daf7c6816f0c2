/-
  Package build: the fixed vectors; the vectors of keys.
  Package build: the vectors of keys.
  Package build: from, Len, Vec, Map, EndVec.
-/
import Derived.Test.YtfoifdoaleaekaaGreatQa30
namespace Go.Proofs.YtfoifdoaleaekaaGreat
open Go.RowKit Go.Acc
set_option maxHeartbeats 1000000 in
theorem fixed1_spec (M : Bp) (fl : Int) (b : Bd) (em : Int) (A : Option Addr) (n c : Nat) (vs : List Bv) (l' : List UInt8) (v' : Bv) (bx be bl : Nat) (w : World) (o : Nat → Nat) (h : BM M fl w o b) (hx : Blk w bx 122 #[.pointer (some ⟨M.β, 0, none⟩)]) (he : Blk w be 3 #[.int .i64 em]) (hl : Blk w bl 160 #[.slice A n c])
    (hv : IsV w A n (vs.map vv)) (ho : ∀ ad, A = some ad → ad.block < w.heap.size ∧ o ad.block = 0) (hs : b.s.length < 65536) (hn : n = 2 ∨ n = 3 ∨ n = 4) (hP : PutsV M b.b em n A n c vs (l', v')) :
    Calls Tryz.prog 220 #[.pointer (some ⟨bl, 0, none⟩), .pointer (some ⟨bx, 0, none⟩), .pointer (some ⟨be, 0, none⟩)] w (BTo M fl { b with b := l', s := b.s ++ [v'] } w o) := by
  have HV := Lib.hid (vector_spec M fl b em n A n c vs l' v' w o h hv ho hs hP)
  have x0 : w.cell? ⟨bx, 0, none⟩ = some (.pointer (some ⟨M.β, 0, none⟩)) := hx.cell 0
  have e0 : w.cell? ⟨be, 0, none⟩ = some (.int .i64 em) := he.cell 0
  have l0 : w.cell? ⟨bl, 0, none⟩ = some (.slice A n c) := hl.cell 0
  have d1 : decide ((n : Int) < 2) = false := decide_eq_false (by omega)
  have d2 : decide ((4 : Int) < (n : Int)) = false := decide_eq_false (by omega)
  have d3 : decide (n < 2) = false := decide_eq_false (by omega)
  have d4 : decide (4 < n) = false := decide_eq_false (by omega)
  clear h hx he hl hv ho hs hn hP
  go_enter Tryz.func220, Tryz.ntmps220
  go_wp2_with fail
  go_at_call 156
  refine HV.out.mono ?_
  rintro e w2 hR
  obtain rfl := hR.1
  have HR := Lib.hid hR
  clear hR x0 e0 l0
  go_wp2_with fail
  go_end0
  exact HR.out
set_option maxHeartbeats 1000000 in
theorem fixed_spec (M : Bp) (fl : Int) (b : Bd) (em : Int) (A : Option Addr) (n c : Nat) (vs : List Bv) (l' : List UInt8) (v' : Bv) (w : World) (o : Nat → Nat) (h : BM M fl w o b) (hv : IsV w A n (vs.map vv)) (ho : ∀ ad, A = some ad → ad.block < w.heap.size ∧ o ad.block = 0) (hs : b.s.length < 65536)
    (hn : n = 2 ∨ n = 3 ∨ n = 4) (hP : PutsV M b.b em n A n c vs (l', v')) :
    Calls Tryz.prog 167 #[.pointer (some ⟨M.β, 0, none⟩), .int .i64 em, .slice A n c] w (BTo M fl { b with b := l', s := b.s ++ [v'] } w o) := by
  have hB := below_three w (.cells #[.pointer (some ⟨M.β, 0, none⟩)] 122) (.cells #[.int .i64 em] 3) (.cells #[.slice A n c] 160)
  have HB := Lib.hid hB
  have HM := Lib.hid (h.fresh hB 0)
  have HF := Lib.hid (fixed1_spec M fl b em A n c vs l' v' w.heap.size (w.heap.size + 1) (w.heap.size + 1 + 1) _ (newO o w.heap.size 0) (h.fresh hB 0) (((Blk.new w 122 #[.pointer (some ⟨M.β, 0, none⟩)]).alloc _).alloc _) ((blk_new2 w _ 3 #[.int .i64 em]).alloc _) (blk_new3 w _ _ 160 #[.slice A n c])
    (hv.pure hB) (fun ad e => ⟨by have h1 := (ho ad e).1; have h2 := hB.size; omega, by rw [newO_old (ho ad e).1]; exact (ho ad e).2⟩) hs hn hP)
  clear h hs hB hP hv ho hn
  go_enter Tryz.func167, Tryz.ntmps167
  go_wp2_with fail
  go_at_call 163
  refine (unless_spec M fl 220 _ _ (newO o w.heap.size 0) b.vals _ HM.out.head Tryz.call220 (HF.out.mono fun e w' h => ⟨h.1, h⟩)).mono ?_
  rintro e w' hR
  obtain rfl := hR.1
  have HR := Lib.hid (hR.from_fresh HB.out)
  clear hR
  go_wp2
  go_end0
  exact HR.out
set_option maxHeartbeats 1000000 in
theorem fixints_spec (M : Bp) (fl : Int) (b : Bd) (A : Option Addr) (n c : Nat) (l : List Int) (w : World) (o : Nat → Nat) (h : BM M fl w o b) (hI : Is nbc w A n l) (hn : n = 2 ∨ n = 3 ∨ n = 4) (hs : b.s.length < 65536) (hbd : ∀ x ∈ l, -9223372036854775808 ≤ x ∧ x ≤ 9223372036854775807) (hl : b.b.length + 40 + 9 * l.length ≤ 1048576) :
    Calls Tryz.prog 116 #[.pointer (some ⟨M.β, 0, none⟩), .slice A n c] w (BTo M fl (b.vec (10 + 3 * n) false false (l.map numV)) w o) := by
  have HM := Lib.hid h
  have HI := Lib.hid hI
  have HS := Lib.hid hs
  have HBD := Lib.hid hbd
  have HL := Lib.hid hl
  have HN := Lib.hid hn
  have hn1 : n ≤ 1000000 := by omega
  have HT := Lib.hid (show vecTy 1 n = 10 + 3 * n by rcases hn with rfl | rfl | rfl <;> rfl)
  clear h hI hs hbd hl hn
  go_enter Tryz.func116, Tryz.ntmps116
  go_wp2_with fail
  go_at_call 157
  refine (mapn_spec A n c l _ HI.out hn1 HBD.out).mono ?_
  rintro e w1 ⟨A1, c1, rfl, hO, hb⟩
  have HM1 := Lib.hid (HM.out.fresh hb 0)
  have HO1 := Lib.hid hO
  have HB1 := Lib.hid hb
  clear hO hb
  have HP := Lib.hid (puts_tm (M := M) (A := A1) (n := n) (c := c1) (numv_ok HL.out) (e := 1) (by have := HN.out; unfold TyOk; omega) (by have := HN.out; omega) (fun v hv => by obtain ⟨x, _, rfl⟩ := List.mem_map.1 hv; rfl))
  rw [HT.out] at HP
  go_wp2_with fail
  go_at_call 167
  refine (fixed_spec M fl b ((1 : Nat) : Int) A1 n c1 (l.map numV) (bVec (10 + 3 * n) false false (l.map numV) b.b).1 (bVec (10 + 3 * n) false false (l.map numV) b.b).2 w1 _ HM1.out HO1.out.is (fun ad e => ⟨(HO1.out.addr ad e).2.2, newO_new (HO1.out.addr ad e).2.1⟩) HS.out HN.out HP.out).mono ?_
  rintro e w2 hR
  obtain rfl := hR.1
  have HR := Lib.hid (BTo.from_fresh HB1.out hR)
  clear hR
  go_wp2_with fail
  go_end0
  exact HR.out
set_option maxHeartbeats 1000000 in
theorem fixuints_spec (M : Bp) (fl : Int) (b : Bd) (A : Option Addr) (n c : Nat) (l : List Nat) (w : World) (o : Nat → Nat) (h : BM M fl w o b) (hI : Is ubc w A n l) (hn : n = 2 ∨ n = 3 ∨ n = 4) (hs : b.s.length < 65536) (hbd : ∀ x ∈ l, x < 18446744073709551616) (hl : b.b.length + 40 + 9 * l.length ≤ 1048576) :
    Calls Tryz.prog 117 #[.pointer (some ⟨M.β, 0, none⟩), .slice A n c] w (BTo M fl (b.vec (11 + 3 * n) false false (l.map unsV)) w o) := by
  have HM := Lib.hid h
  have HI := Lib.hid hI
  have HS := Lib.hid hs
  have HBD := Lib.hid hbd
  have HL := Lib.hid hl
  have HN := Lib.hid hn
  have hn1 : n ≤ 1000000 := by omega
  have HT := Lib.hid (show vecTy 2 n = 11 + 3 * n by rcases hn with rfl | rfl | rfl <;> rfl)
  clear h hI hs hbd hl hn
  go_enter Tryz.func117, Tryz.ntmps117
  go_wp2_with fail
  go_at_call 159
  refine (mapu_spec A n c l _ HI.out hn1 HBD.out).mono ?_
  rintro e w1 ⟨A1, c1, rfl, hO, hb⟩
  have HM1 := Lib.hid (HM.out.fresh hb 0)
  have HO1 := Lib.hid hO
  have HB1 := Lib.hid hb
  clear hO hb
  have HP := Lib.hid (puts_tm (M := M) (A := A1) (n := n) (c := c1) (unsv_ok HL.out) (e := 2) (by have := HN.out; unfold TyOk; omega) (by have := HN.out; omega) (fun v hv => by obtain ⟨x, _, rfl⟩ := List.mem_map.1 hv; rfl))
  rw [HT.out] at HP
  go_wp2_with fail
  go_at_call 167
  refine (fixed_spec M fl b ((2 : Nat) : Int) A1 n c1 (l.map unsV) (bVec (11 + 3 * n) false false (l.map unsV) b.b).1 (bVec (11 + 3 * n) false false (l.map unsV) b.b).2 w1 _ HM1.out HO1.out.is (fun ad e => ⟨(HO1.out.addr ad e).2.2, newO_new (HO1.out.addr ad e).2.1⟩) HS.out HN.out HP.out).mono ?_
  rintro e w2 hR
  obtain rfl := hR.1
  have HR := Lib.hid (BTo.from_fresh HB1.out hR)
  clear hR
  go_wp2_with fail
  go_end0
  exact HR.out
end Go.Proofs.YtfoifdoaleaekaaGreat

namespace Go.Proofs.YtfoifdoaleaekaaGreat
open Go.RowKit Go.Acc
theorem puts_snoc (f : Nat) : ∀ (l : List (List UInt8)) (s : List UInt8) (b : Bd), b.puts f (l ++ [s]) = (((b.puts f l).1.put f s).1, (b.puts f l).2 ++ [((b.puts f l).1.put f s).2])
  | [], s, b => by simp [Bd.puts]
  | x :: r, s, b => by
    rw [List.cons_append]
    simp only [Bd.puts, puts_snoc f r s, List.cons_append]
theorem put_grow (f : Nat) (s : List UInt8) (b : Bd) : (b.put f s).1.b.length ≤ b.b.length + s.length + 1 ∧ (b.put f s).1.keys.length ≤ b.keys.length + 1 ∧ (b.put f s).1.names.length ≤ b.names.length + 1 ∧ (b.put f s).1.s = b.s := by
  unfold Bd.put
  have h := putP_len b.keys s b.b.length
  cases (if onF f 1 = true then getP b.keys s else none) with
  | some a => exact ⟨by simp; omega, by simp, by simp, rfl⟩
  | none => exact ⟨by simp; omega, by simpa using h, by simp, rfl⟩
theorem keysCost_app (l m : List (List UInt8)) : keysCost (l ++ m) = keysCost l + keysCost m := by
  induction l with
  | nil => simp [keysCost]
  | cons s r ih => simp only [List.cons_append, keysCost, ih]; omega
theorem puts_grow (f : Nat) (l : List (List UInt8)) (b : Bd) : (b.puts f l).1.b.length ≤ b.b.length + keysCost l ∧ (b.puts f l).1.keys.length ≤ b.keys.length + l.length ∧ (b.puts f l).1.names.length ≤ b.names.length + l.length ∧ (b.puts f l).1.s = b.s := by
  induction l generalizing b with
  | nil => simp [Bd.puts, keysCost]
  | cons s r ih =>
    obtain ⟨a1, a2, a3, a4⟩ := put_grow f s b
    obtain ⟨b1, b2, b3, b4⟩ := ih (b.put f s).1
    simp only [Bd.puts, keysCost, List.length_cons]
    exact ⟨by omega, by omega, by omega, b4.trans a4⟩
/-- There is room for keys. -/
structure RoomL (b : Bd) (l : List (List UInt8)) : Prop where
  st : b.s.length < 65536
  len : b.b.length + keysCost l ≤ 1048576
  ky : b.keys.length + l.length ≤ 1048575
  nm : b.names.length + l.length ≤ 1048575
theorem RoomL.at_ {b : Bd} {l : List (List UInt8)} (h : RoomL b l) (f : Nat) {k : Nat} {s : List UInt8} (hs : l[k]? = some s) : RoomK (b.puts f (l.take k)).1 s := by
  obtain ⟨g1, g2, g3, g4⟩ := puts_grow f (l.take k) b
  have hk : k < l.length := (List.getElem?_eq_some_iff.1 hs).1
  have e : l = l.take k ++ s :: l.drop (k + 1) := by
    have h1 := (List.getElem?_eq_some_iff.1 hs).2
    conv => lhs; rw [← List.take_append_drop k l, List.drop_eq_getElem_cons hk, h1]
  have hc : keysCost l = keysCost (l.take k) + (s.length + 20 + keysCost (l.drop (k + 1))) := by
    conv => lhs; rw [e]
    rw [keysCost_app]; rfl
  rw [List.length_take, Nat.min_eq_left (by omega)] at g2 g3
  have h1 := h.len
  have h2 := h.ky
  have h3 := h.nm
  exact ⟨by rw [g4]; exact h.st, by omega, by omega, by omega⟩
/-- A step into the call's own, new blocks. -/
theorem to_newfr {I S : Nat → Prop} {w w' w'' : World} {o o' : Nat → Nat} (h : To I w o w' o') (hf : Fr S w' w'') (hS : ∀ k, S k → w.heap.size ≤ k) (i : Nat) : To I w o w'' (newO o' w'.heap.size i) :=
  ⟨h.fr.trans hf (fun k hk hs => absurd (hS k hs) (by omega)), fun k hk => by rw [newO_old (Nat.lt_of_lt_of_le hk h.size)]; exact h.ow k hk⟩
/-- Keys are written, one by one; their values are the call's own. -/
def MappedS (M : Bp) (fl : Int) (w : World) (o : Nat → Nat) (n : Nat) (x : Bd × List Bv) (e : Ending) (w' : World) : Prop :=
  ∃ A c, e = .returned (.slice A n c) ∧ OwnV w' w.heap.size A n c (x.2.map vv) ∧ ∃ o', BM M fl w' o' x.1 ∧ To Bld w o w' o' ∧ ∀ ad, A = some ad → o' ad.block = 0
set_option maxRecDepth 100000 in
set_option maxHeartbeats 4000000 in
theorem maps_spec (M : Bp) (fl : Int) (b : Bd) (A : Option Addr) (n c : Nat) (l : List (List UInt8)) (w : World) (o : Nat → Nat) (h : BM M fl w o b) (hI : IsS w A n l) (ho : ∀ ad, A = some ad → ad.block < w.heap.size ∧ o ad.block = 0) (hn : n ≤ 1000000) (hr : RoomL b l) (hz : ∀ s ∈ l, hasZero s = false) :
    Calls Tryz.prog 165 #[.func (.func 166) #[.pointer (some ⟨M.β, 0, none⟩)] #[], .slice A n c] w (MappedS M fl w o n (b.puts (Go.Proofs.YtfoifdoaleaekaaGreat.bits fl) l)) := by
  obtain ⟨f, hf⟩ : ∃ f, Go.Proofs.YtfoifdoaleaekaaGreat.bits fl = f := ⟨_, rfl⟩
  have HF := Lib.hid hf
  have HM := Lib.hid h
  have HI := Lib.hid hI
  have HOO := Lib.hid ho
  have HR := Lib.hid hr
  have HZ := Lib.hid hz
  have HL := Lib.hid hI.1
  rw [hf]
  clear h hI ho hr hz hf
  go_enter Tryz.func165, Tryz.ntmps165
  go_wp2_with fail
  go_loopw [4, 9] (fun s u wr => ∃ k : Nat, k ≤ n ∧ u = .int .i64 k ∧ ∃ A1 c1, s = .slice A1 k c1 ∧ OwnV wr w.heap.size A1 k c1 ((b.puts f (l.take k)).2.map vv) ∧ ∃ o', BM M fl wr o' (b.puts f (l.take k)).1 ∧ To Bld w o wr o' ∧ (∀ ad, A1 = some ad → o' ad.block = 0) ∧ IsS wr A n l ∧ w.heap.size ≤ wr.heap.size) (fun _ u _ => n - (intOf u).toNat)
  case atStart => exact ⟨0, Nat.zero_le _, rfl, none, 0, rfl, Own.nil _ _, o, by rw [List.take_zero]; exact HM.out, To.refl _ _ _, (fun ad h => by cases h), HI.out, Nat.le_refl _⟩
  case round =>
    obtain ⟨k, hk, rfl, A1, c1, rfl, how, o', hm, ht, hoa, hi, hsz⟩ := hrel
    have HOW := Lib.hid how
    have HMR := Lib.hid hm
    have HTR := Lib.hid ht
    have HOA := Lib.hid hoa
    have HSZ := Lib.hid hsz
    have HIR := Lib.hid hi
    clear how hm ht hoa hsz hi HM HI
    by_cases hlt : k < n
    · obtain ⟨g, off, e, hk', hc⟩ := iss_at HIR.out hlt
      obtain ⟨s, hs⟩ : ∃ s, l[k] = s := ⟨_, rfl⟩
      rw [hs] at hc
      have hls : l[k]? = some s := by rw [List.getElem?_eq_getElem hk', hs]
      have HRK := Lib.hid (HR.out.at_ f hls)
      have HZK := Lib.hid (HZ.out s (List.mem_of_getElem? hls))
      have HT := Lib.hid (show b.puts f (l.take (k + 1)) = (((b.puts f (l.take k)).1.put f s).1, (b.puts f (l.take k)).2 ++ [((b.puts f (l.take k)).1.put f s).2]) by
        rw [List.take_succ_eq_append_getElem hk', hs, puts_snoc])
      have hk0 : (0 : Int) ≤ (k : Int) := by omega
      have hkn : (k : Int) < (n : Int) := by omega
      have hcp := cput_spec M fl _ s wr o' HMR.out HRK.out HZK.out
      rw [HF.out] at hcp
      have HCP := Lib.hid hcp
      have HOI := Lib.hid (show ∀ ad, A = some ad → o' ad.block = 0 from fun ad h => (HTR.out.ow _ (HOO.out ad h).1).trans (HOO.out ad h).2)
      have HE1 := Lib.hid e
      rw [e]
      clear hs hls hk' hcp e
      go_wp2_with fail
      go_at_call 166
      refine HCP.out.mono ?_
      rintro x w2 ⟨a, ha, rfl, o2, hm2, ht2⟩
      have HAA := Lib.hid ha
      have HM2 := Lib.hid hm2
      have HT2 := Lib.hid (HTR.out.trans ht2)
      have HO2 := Lib.hid (HOW.out.fr ht2.fr (fun ad h => by rw [HOA.out ad h]; exact bld_0))
      have HOA2 := Lib.hid (show ∀ ad, A1 = some ad → o2 ad.block = 0 from fun ad h => (ht2.ow _ (HOW.out.addr ad h).2.2).trans (HOA.out ad h))
      have HI2 := Lib.hid (HIR.out.fr ht2.fr (fun ad h => by rw [HOI.out ad h]; exact bld_0))
      have HS2 := Lib.hid (Nat.le_trans HSZ.out ht2.size)
      clear ha hm2 ht2 hc
      have hA3 := (Below.refl w2.heap.size w2).alloc (Nat.le_refl _) (.cells #[.int .i64 ((⟨4, 1, a⟩ : Bv).t : Int), .int .i64 ((⟨4, 1, a⟩ : Bv).w : Int), .int .u64 ((⟨4, 1, a⟩ : Bv).n : Int)] 185)
      have HM3 := Lib.hid (HM2.out.fresh hA3 0)
      have HT3 := Lib.hid (HT2.out.trans (To.fresh Bld hA3 o2 0))
      have HO3 := Lib.hid (HO2.out.pure hA3)
      have HI3 := Lib.hid (HI2.out.pure hA3)
      have HOA3 := Lib.hid (show ∀ ad, A1 = some ad → newO o2 w2.heap.size 0 ad.block = 0 from fun ad h => by rw [newO_old (HO2.out.addr ad h).2.2]; exact HOA2.out ad h)
      have HOI3 := Lib.hid (show ∀ ad, A = some ad → ad.block < w.heap.size from fun ad h => (HOO.out ad h).1)
      have HS3 := Lib.hid (Nat.le_trans HS2.out hA3.size)
      have HLT := Lib.hid (isv_lit w2 ⟨4, 1, a⟩)
      clear hA3
      go_wp2_with (at_builtin; refine wpl_app _ rfl (.tmp 13) (.tmp 17) _ rfl 185 _ 3 24 Tryz.underlying160 info_v rfl (by omega) vc_len vc_one _ _ _ _ _ rfl HO3.out _ _ _ _ rfl HLT.out (by omega) HS3.out ?_; intro A4 c4 w4 hown4 hfr4 hat4)
      have HW3 := Lib.hid (show ∀ ad, A1 = some ad → ad.block < (w2.alloc (.cells #[.int .i64 ((⟨4, 1, a⟩ : Bv).t : Int), .int .i64 ((⟨4, 1, a⟩ : Bv).w : Int), .int .u64 ((⟨4, 1, a⟩ : Bv).n : Int)] 185)).heap.size from fun ad h => (HO3.out.addr ad h).2.2)
      have HSA := Lib.hid (show ∀ j, (∃ ad, A1 = some ad ∧ j = ad.block) → w.heap.size ≤ j by rintro j ⟨ad, e, rfl⟩; exact (HO3.out.addr ad e).2.1)
      have HO4 := Lib.hid hown4
      have HM4 := Lib.hid (HM3.out.to_ (To.of_fr (I := fun i => i = 0) hfr4 (by rintro j _ ⟨ad, e, rfl⟩; exact HOA3.out ad e) 0) (fun i hi e => by subst e; exact bld_0 hi))
      have HT4 := Lib.hid (to_newfr HT3.out hfr4 HSA.out 0)
      have HI4 := Lib.hid (show IsS w4 A n l from HI3.out.fr hfr4 (by rintro ad h ⟨ad', e', h'⟩; have h1 := HOI3.out ad h; have h2 := HSA.out ad.block ⟨ad', e', h'⟩; omega))
      have HOA4 := Lib.hid (show ∀ ad, A4 = some ad → newO (newO o2 w2.heap.size 0) (w2.alloc (.cells #[.int .i64 ((⟨4, 1, a⟩ : Bv).t : Int), .int .i64 ((⟨4, 1, a⟩ : Bv).w : Int), .int .u64 ((⟨4, 1, a⟩ : Bv).n : Int)] 185)).heap.size 0 ad.block = 0 from fun ad h => by
        subst h
        rcases hat4 with h1 | h1
        · cases hA1 : A1 with
          | none => rw [hA1] at h1; cases h1
          | some ad1 =>
            rw [hA1] at h1
            have h2 : ad.block = ad1.block := by simpa using h1
            rw [h2, newO_old (HW3.out ad1 hA1)]
            exact HOA3.out ad1 hA1
        · have h2 : ad.block = (w2.alloc (.cells #[.int .i64 ((⟨4, 1, a⟩ : Bv).t : Int), .int .i64 ((⟨4, 1, a⟩ : Bv).w : Int), .int .u64 ((⟨4, 1, a⟩ : Bv).n : Int)] 185)).heap.size := by injection h1
          rw [h2]
          exact newO_new (Nat.le_refl _))
      have HS4 := Lib.hid (Nat.le_trans HS3.out hfr4.size)
      clear hown4 hfr4 hat4
      go_wp2_with fail
      go_roundw
      case rel =>
        refine ⟨k + 1, by omega, by go_num, A4, c4, rfl, ?_, _, ?_, HT4.out, HOA4.out, by rw [← HE1.out]; exact HI4.out, HS4.out⟩
        · rw [HT.out, HAA.out, List.map_append]
          exact HO4.out
        · rw [HT.out]
          exact HM4.out
      case measure => simp [intOf]; omega
    · obtain rfl : k = n := by omega
      have HE := Lib.hid (show l.take k = l from List.take_of_length_le (by have := HL.out; omega))
      rw [HE.out] at HOW HMR
      go_wp2_with fail
      go_ret
      exact ⟨A1, c1, rfl, HOW.out, o', HMR.out, HTR.out, HOA.out⟩
/-- What a vector's values of keys are. -/
theorem keysAt_ok {l : List UInt8} {ks : List (List UInt8)} {vs : List Bv} (h : KeysAt l ks vs) (hl : l.length + 40 + 9 * ks.length ≤ 1048576) : VecOk vs l ∧ ∀ v ∈ vs, v.t = 4 := by
  have hm : ∀ v ∈ vs, ∃ s, KeyAt l s v := by
    intro v hv
    obtain ⟨i, hi, e⟩ := List.getElem_of_mem hv
    have hk : i < ks.length := by rw [← h.1]; exact hi
    exact ⟨ks[i], h.2 i ks[i] v (List.getElem?_eq_getElem hk) (by rw [List.getElem?_eq_getElem hi, e])⟩
  exact ⟨⟨fun v hv => by obtain ⟨s, h1, _⟩ := hm v hv; rw [h1]; decide, fun v hv => by obtain ⟨s, _, h2, _⟩ := hm v hv; rw [h2]; decide, h.fit, by rw [h.1]; exact hl⟩,
    fun v hv => by obtain ⟨s, h1, _⟩ := hm v hv; exact h1⟩
set_option maxRecDepth 100000 in
set_option maxHeartbeats 2000000 in
theorem ckeys1_spec (M : Bp) (fl : Int) (b : Bd) (A : Option Addr) (n c : Nat) (l : List (List UInt8)) (bx bl : Nat) (w : World) (o : Nat → Nat) (h : BM M fl w o b) (hx : Blk w bx 122 #[.pointer (some ⟨M.β, 0, none⟩)]) (hb : Blk w bl 23 #[.slice A n c]) (hox : o bx = 0) (hob : o bl = 0)
    (hI : IsS w A n l) (ho : ∀ ad, A = some ad → ad.block < w.heap.size ∧ o ad.block = 0) (hn : n ≤ 1000000) (hr : RoomL b l) (hz : ∀ s ∈ l, hasZero s = false) (hg : Good b) (hl : b.b.length + keysCost l + 40 + 9 * l.length ≤ 1048576) :
    Calls Tryz.prog 164 #[.pointer (some ⟨bx, 0, none⟩), .pointer (some ⟨bl, 0, none⟩)] w (BTo M fl ((b.puts (Go.Proofs.YtfoifdoaleaekaaGreat.bits fl) l).1.vec 14 true false (b.puts (Go.Proofs.YtfoifdoaleaekaaGreat.bits fl) l).2) w o) := by
  obtain ⟨f, hf⟩ : ∃ f, Go.Proofs.YtfoifdoaleaekaaGreat.bits fl = f := ⟨_, rfl⟩
  have hms := maps_spec M fl b A n c l w.drew o h.drew hI ho hn hr hz
  rw [hf] at hms ⊢
  obtain ⟨hst, hka, hse⟩ := puts_law f l b hg
  obtain ⟨g1, g2, g3, g4⟩ := puts_grow f l b
  obtain ⟨hok, hel⟩ := keysAt_ok hka (by omega)
  obtain ⟨x, hxx⟩ : ∃ x, b.puts f l = x := ⟨_, rfl⟩
  rw [hxx] at hms hok hel hse ⊢
  obtain ⟨b', vs⟩ := x
  have HMS := Lib.hid hms
  have HOK := Lib.hid hok
  have HEL := Lib.hid hel
  have HSS := Lib.hid (show b'.s.length < 65536 by rw [show b'.s = b.s from hse]; exact hr.st)
  have HPV := Lib.hid (fun (A2 : Option Addr) (c2 : Nat) => (show PutsV M b'.b 4 0 A2 n c2 vs ((bVec 14 true false vs b'.b).1, (bVec 14 true false vs b'.b).2) from puts_t0 (e := 4) hok (.inl ⟨rfl, .inr (.inr (.inl rfl))⟩) hel))
  have HX := Lib.hid hx
  have HB := Lib.hid hb
  have HOX := Lib.hid (And.intro hox hob)
  have x0 : w.cell? ⟨bx, 0, none⟩ = some (.pointer (some ⟨M.β, 0, none⟩)) := hx.cell 0
  have x1 : w.cell? ⟨bl, 0, none⟩ = some (.slice A n c) := hb.cell 0
  clear h hx hb hox hob hI ho hr hz hg hl hms hok hel hse hst hka g1 g2 g3 g4 hf hxx
  go_enter Tryz.func164, Tryz.ntmps164
  go_wp2_with fail
  go_region_held3 (fun w' => w'.cell? ⟨bx, 0, none⟩ = some (.pointer (some ⟨M.β, 0, none⟩)) ∧ w'.cell? ⟨bl, 0, none⟩ = some (.slice A n c)) (first | with_reducible exact ⟨x0, x1⟩ | with_reducible exact ⟨kdrew x0, kdrew x1⟩ | with_reducible exact ⟨y0, y1⟩ | with_reducible exact ⟨z0, z1⟩) (first | (go_at_call 165; (with_reducible refine HMS.out.mono ?_); rintro e w2 ⟨A2, c2, rfl, hO2, o2, hM2, hT2, hA2⟩; have hT2' := hT2.from_drew; have hX2 := HX.out.to_ hT2' (by rw [HOX.out.1]; exact bld_0); have hB2 := HB.out.to_ hT2' (by rw [HOX.out.2]; exact bld_0); have y0 : w2.cell? ⟨bx, 0, none⟩ = some (.pointer (some ⟨M.β, 0, none⟩)) := hX2.cell 0; have y1 : w2.cell? ⟨bl, 0, none⟩ = some (.slice A n c) := hB2.cell 0; have HX2 := Lib.hid hX2; have HB2 := Lib.hid hB2; have HOX2 := Lib.hid (And.intro ((hT2'.ow _ HX.out.lt).trans HOX.out.1) ((hT2'.ow _ HB.out.lt).trans HOX.out.2)); have HM2 := Lib.hid hM2; have HT2 := Lib.hid hT2'; have HO2 := Lib.hid hO2; have HA2 := Lib.hid hA2; clear hT2 hT2' hX2 hB2 hO2 hM2 hA2) | (go_at_call 156; (with_reducible refine (vector_spec M fl b' 4 0 A2 n c2 vs (bVec 14 true false vs b'.b).1 (bVec 14 true false vs b'.b).2 _ o2 HM2.out HO2.out.is (fun ad e => ⟨(HO2.out.addr ad e).2.2, HA2.out ad e⟩) HSS.out (HPV.out A2 c2)).mono ?_); rintro e w3 ⟨rfl, o3, hM3, hT3⟩; have z0 : w3.cell? ⟨bx, 0, none⟩ = some (.pointer (some ⟨M.β, 0, none⟩)) := (HX2.out.to_ hT3 (by rw [HOX2.out.1]; exact bld_0)).cell 0; have z1 : w3.cell? ⟨bl, 0, none⟩ = some (.slice A n c) := (HB2.out.to_ hT3 (by rw [HOX2.out.2]; exact bld_0)).cell 0; have HM3 := Lib.hid hM3; have HT3 := Lib.hid (HT2.out.trans hT3); clear hM3 hT3))
  go_wp2_with fail
  go_end0
  exact ⟨rfl, o3, HM3.out, HT3.out⟩
set_option maxHeartbeats 1000000 in
theorem ckeys_spec (M : Bp) (fl : Int) (b : Bd) (A : Option Addr) (n c : Nat) (l : List (List UInt8)) (w : World) (o : Nat → Nat) (h : BM M fl w o b)
    (hI : IsS w A n l) (ho : ∀ ad, A = some ad → ad.block < w.heap.size ∧ o ad.block = 0) (hn : n ≤ 1000000) (hr : RoomL b l) (hz : ∀ s ∈ l, hasZero s = false) (hg : Good b) (hl : b.b.length + keysCost l + 40 + 9 * l.length ≤ 1048576) :
    Calls Tryz.prog 113 #[.pointer (some ⟨M.β, 0, none⟩), .slice A n c] w (BTo M fl ((b.puts (Go.Proofs.YtfoifdoaleaekaaGreat.bits fl) l).1.vec 14 true false (b.puts (Go.Proofs.YtfoifdoaleaekaaGreat.bits fl) l).2) w o) := by
  have hB := below_two w (.cells #[.pointer (some ⟨M.β, 0, none⟩)] 122) (.cells #[.slice A n c] 23)
  have HB := Lib.hid hB
  have HM := Lib.hid (h.fresh hB 0)
  have HF := Lib.hid (ckeys1_spec M fl b A n c l w.heap.size (w.heap.size + 1) _ (newO o w.heap.size 0) (h.fresh hB 0) ((Blk.new w 122 #[.pointer (some ⟨M.β, 0, none⟩)]).alloc _) (blk_new2 w _ 23 #[.slice A n c]) (newO_new (by omega)) (newO_new (by omega))
    (hI.pure hB) (fun ad e => ⟨by have h1 := (ho ad e).1; have h2 := hB.size; omega, by rw [newO_old (ho ad e).1]; exact (ho ad e).2⟩) hn hr hz hg hl)
  clear h hI ho hr hz hg hl hB
  go_enter Tryz.func113, Tryz.ntmps113
  go_wp2_with fail
  go_at_call 163
  refine (unless_spec M fl 164 _ _ (newO o w.heap.size 0) b.vals _ HM.out.head Tryz.call164 (HF.out.mono fun e w' h => ⟨h.1, h⟩)).mono ?_
  rintro e w' hR
  obtain rfl := hR.1
  have HR := Lib.hid (hR.from_fresh HB.out)
  clear hR
  go_wp2
  go_end0
  exact HR.out
end Go.Proofs.YtfoifdoaleaekaaGreat

namespace Go.Proofs.YtfoifdoaleaekaaGreat
open Go.RowKit Go.Acc
theorem clen_spec (M : Bp) (fl : Int) (b : Bd) (k : Nat) (w : World) (o : Nat → Nat) (h : BM M fl w o b) (hk : b.s.length = k) : Calls Tryz.prog 168 #[.pointer (some ⟨M.β, 0, none⟩)] w fun e w' => e = .returned (.int .i64 (k : Int)) ∧ w = w' := by
  have HM := Lib.hid h
  have HK := Lib.hid hk
  obtain ⟨c0, c1, c2, c9, _⟩ := h.head.cells
  clear h hk
  go_enter Tryz.func168, Tryz.ntmps168
  go_wp2_with (go_at_call 125; refine (cnone_spec M.β _ (by assumption)).mono ?_; rintro e w' ⟨rfl, rfl⟩)
  go_at_call 221
  refine (slen_is M.sb k b.s _ o HM.out.stk HK.out).mono ?_
  rintro e w' ⟨rfl, rfl⟩
  go_wp2_with fail
  go_ret
  exact ⟨rfl, rfl⟩
theorem cvec_spec (M : Bp) (fl : Int) (b : Bd) (k : Nat) (w : World) (o : Nat → Nat) (h : BM M fl w o b) (hk : b.s.length = k) : Calls Tryz.prog 118 #[.pointer (some ⟨M.β, 0, none⟩)] w fun e w' => e = .returned (.int .i64 (k : Int)) ∧ w = w' := by
  go_enter Tryz.func118, Tryz.ntmps118
  go_wp2_with fail
  go_at_call 168
  refine (clen_spec M fl b k _ o h hk).mono ?_
  rintro e w' ⟨rfl, rfl⟩
  go_wp2_with fail
  go_ret
  exact ⟨rfl, rfl⟩
theorem cmap_spec (M : Bp) (fl : Int) (b : Bd) (k : Nat) (w : World) (o : Nat → Nat) (h : BM M fl w o b) (hk : b.s.length = k) : Calls Tryz.prog 120 #[.pointer (some ⟨M.β, 0, none⟩)] w fun e w' => e = .returned (.int .i64 (k : Int)) ∧ w = w' := by
  go_enter Tryz.func120, Tryz.ntmps120
  go_wp2_with fail
  go_at_call 168
  refine (clen_spec M fl b k _ o h hk).mono ?_
  rintro e w' ⟨rfl, rfl⟩
  go_wp2_with fail
  go_ret
  exact ⟨rfl, rfl⟩
/-- The values from an index on, as a copy. -/
def FromW (w : World) (l : List Bv) (e : Ending) (w' : World) : Prop := ∃ A c, e = .returned (.slice A l.length c) ∧ OwnV w' w.heap.size A l.length c (l.map vv) ∧ Below w.heap.size w w'
set_option maxHeartbeats 1000000 in
theorem cfrom_spec (M : Bp) (fl : Int) (b : Bd) (k : Nat) (w : World) (o : Nat → Nat) (h : BM M fl w o b) (hk : k ≤ b.s.length) : Calls Tryz.prog 170 #[.pointer (some ⟨M.β, 0, none⟩), .int .i64 (k : Int)] w (FromW w (b.s.drop k)) := by
  have HM := Lib.hid h
  have HK := Lib.hid hk
  obtain ⟨c0, c1, c2, c9, _⟩ := h.head.cells
  clear h hk
  go_enter Tryz.func170, Tryz.ntmps170
  go_wp2_with fail
  go_at_call 126
  refine (sfrom_is M.sb k b.s _ o HM.out.stk HK.out).mono ?_
  rintro e w1 ⟨A, n, c, rfl, hO, hb⟩
  have hn : n = (b.s.drop k).length := by have := hO.1; simpa using this.symm
  have HN := Lib.hid hn
  have HO := Lib.hid hO
  have HB := Lib.hid hb
  clear hn hO hb c0 c1 c2 c9
  go_wp2_with fail
  go_ret
  obtain rfl := HN.out
  exact ⟨A, c, rfl, HO.out, HB.out⟩
set_option maxRecDepth 100000 in
set_option maxHeartbeats 2000000 in
theorem endvec1_spec (M : Bp) (fl : Int) (b : Bd) (k bx bk : Nat) (w : World) (o : Nat → Nat) (h : BM M fl w o b) (hx : Blk w bx 122 #[.pointer (some ⟨M.β, 0, none⟩)]) (hb : Blk w bk 3 #[.int .i64 (k : Int)]) (hox : o bx = 0) (hk : k ≤ b.s.length) (hs : b.s.length ≤ 65536) (hks : k < 65536) (hok : VecOk (b.s.drop k) b.b) :
    Calls Tryz.prog 169 #[.pointer (some ⟨bx, 0, none⟩), .pointer (some ⟨bk, 0, none⟩)] w (BTo M fl (b.endVec k) w o) := by
  have HM := Lib.hid h
  have HK := Lib.hid hk
  have HX := Lib.hid hx
  have HOX := Lib.hid hox
  have HOK := Lib.hid hok
  have HSB := Lib.hid hs
  obtain ⟨m, hm⟩ : ∃ m, (b.s.drop k).length = m := ⟨_, rfl⟩
  have HMM := Lib.hid hm
  have hmk : m ≤ b.s.length ∧ b.s.length - m = k := by rw [List.length_drop] at hm; omega
  have HMK := Lib.hid hmk
  have HST := Lib.hid (show (b.s.take k).length < 65536 by rw [List.length_take]; omega)
  have x0 : w.cell? ⟨bx, 0, none⟩ = some (.pointer (some ⟨M.β, 0, none⟩)) := hx.cell 0
  have x1 : w.cell? ⟨bk, 0, none⟩ = some (.int .i64 (k : Int)) := hb.cell 0
  clear h hx hb hox hok hm hmk
  go_enter Tryz.func169, Tryz.ntmps169
  go_wp2_with fail
  go_at_call 170
  refine (cfrom_spec M fl b k _ o HM.out HK.out).mono ?_
  rintro e w1 ⟨A, c, rfl, hO, hb⟩
  rw [HMM.out] at hO ⊢
  have HO := Lib.hid hO
  have HA1 := Lib.hid (show ∀ ad, A = some ad → ad.block < w1.heap.size ∧ newO o w.heap.size 0 ad.block = 0 from fun ad e => ⟨(hO.addr ad e).2.2, newO_new (hO.addr ad e).2.1⟩)
  have HM1 := Lib.hid (HM.out.fresh hb 0)
  have HX1 := Lib.hid (HX.out.pure hb)
  have HT1 := Lib.hid (To.fresh Bld hb o 0)
  have HOX1 := Lib.hid (show newO o w.heap.size 0 bx = 0 by rw [newO_old HX.out.lt]; exact HOX.out)
  clear hO hb x0 x1
  have x0 : w1.cell? ⟨bx, 0, none⟩ = some (.pointer (some ⟨M.β, 0, none⟩)) := HX1.out.cell 0
  obtain ⟨c0, c1, c2, c9, _⟩ := HM1.out.head.cells
  go_wp2_with fail
  go_at_call 171
  refine (spop_is M.sb m b.s _ _ HM1.out.stk HMK.out.1 (by have := HSB.out; have := HMK.out.1; omega)).mono ?_
  rintro e w2 ⟨⟨A2, n2, c2', rfl⟩, o2, hS2, hT2⟩
  rw [HMK.out.2] at hS2
  have HM2 := Lib.hid (HM1.out.stk_ hT2 hS2)
  have HT2 := Lib.hid (HT1.out.trans (hT2.mono fun _ h => bld_3 h))
  have HX2 := Lib.hid (HX1.out.to_ hT2 (by rw [HOX1.out]; omega))
  have HO2 := Lib.hid (HO.out.fr hT2.fr (fun ad e => by rw [(HA1.out ad e).2]; omega))
  have HA2 := Lib.hid (show ∀ ad, A = some ad → ad.block < w2.heap.size ∧ o2 ad.block = 0 from fun ad e => ⟨Nat.lt_of_lt_of_le (HA1.out ad e).1 hT2.size, (hT2.ow _ (HA1.out ad e).1).trans (HA1.out ad e).2⟩)
  clear hS2 hT2 x0 c0 c1 c2 c9
  have x0 : w2.cell? ⟨bx, 0, none⟩ = some (.pointer (some ⟨M.β, 0, none⟩)) := HX2.out.cell 0
  have HPV := Lib.hid (show PutsV M b.b (-1) 0 A m c (b.s.drop k) ((bVec 10 true true (b.s.drop k) b.b).1, (bVec 10 true true (b.s.drop k) b.b).2) from puts_un HOK.out)
  go_wp2_with fail
  go_at_call 156
  refine (vector_spec M fl { b with s := b.s.take k } (-1) 0 A m c (b.s.drop k) _ _ _ o2 HM2.out HO2.out.is HA2.out HST.out HPV.out).mono ?_
  rintro e w3 ⟨rfl, o3, hM3, hT3⟩
  have HM3 := Lib.hid hM3
  have HT3 := Lib.hid (HT2.out.trans hT3)
  clear hM3 hT3 x0
  go_wp2_with fail
  go_end0
  exact ⟨rfl, o3, HM3.out, HT3.out⟩
set_option maxHeartbeats 1000000 in
theorem endvec_spec (M : Bp) (fl : Int) (b : Bd) (k : Nat) (w : World) (o : Nat → Nat) (h : BM M fl w o b) (hk : k ≤ b.s.length) (hs : b.s.length ≤ 65536) (hks : k < 65536) (hok : VecOk (b.s.drop k) b.b) :
    Calls Tryz.prog 119 #[.pointer (some ⟨M.β, 0, none⟩), .int .i64 (k : Int)] w (BTo M fl (b.endVec k) w o) := by
  have hB := below_two w (.cells #[.pointer (some ⟨M.β, 0, none⟩)] 122) (.cells #[.int .i64 (k : Int)] 3)
  have HB := Lib.hid hB
  have HM := Lib.hid (h.fresh hB 0)
  have HF := Lib.hid (endvec1_spec M fl b k w.heap.size (w.heap.size + 1) _ (newO o w.heap.size 0) (h.fresh hB 0) ((Blk.new w 122 #[.pointer (some ⟨M.β, 0, none⟩)]).alloc _) (blk_new2 w _ 3 #[.int .i64 (k : Int)]) (newO_new (by omega)) hk hs hks hok)
  clear h hk hs hks hok hB
  go_enter Tryz.func119, Tryz.ntmps119
  go_wp2_with fail
  go_at_call 163
  refine (unless_spec M fl 169 _ _ (newO o w.heap.size 0) b.vals _ HM.out.head Tryz.call169 (HF.out.mono fun e w' h => ⟨h.1, h⟩)).mono ?_
  rintro e w' hR
  obtain rfl := hR.1
  have HR := Lib.hid (hR.from_fresh HB.out)
  clear hR
  go_wp2
  go_end0
  exact HR.out
end Go.Proofs.YtfoifdoaleaekaaGreat
