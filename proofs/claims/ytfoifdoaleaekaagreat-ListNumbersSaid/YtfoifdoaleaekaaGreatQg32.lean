/-
  Package build: mapped, of numbers and booleans.
  Package build: the typed and the fixed vectors of numbers and booleans.
  Package build: the fixed vectors; the vectors of keys.
-/
import Derived.Test.YtfoifdoaleaekaaGreatQg31
namespace Go.Proofs.YtfoifdoaleaekaaGreat
open Go.RowKit Go.Acc
def MappedW (w : World) (n : Nat) (vs : List Bv) (e : Ending) (w' : World) : Prop :=
  ∃ A c, e = .returned (.slice A n c) ∧ OwnV w' w.heap.size A n c (vs.map vv) ∧ Below w.heap.size w w'
theorem isv_lit (W : World) (v : Bv) : IsV (W.alloc (.cells #[.int .i64 (v.t : Int), .int .i64 (v.w : Int), .int .u64 (v.n : Int)] 185)) (some ⟨W.heap.size, 0, none⟩) 1 [vv v] := (ownv_lit W v).is
theorem is1_at {α : Type} {f : α → List Value} {w : World} {A : Option Addr} {n : Nat} {l : List α} {g : α → Value} (hf : ∀ x, f x = [g x]) (h : Is f w A n l) {k : Nat} (hk : k < n) :
    ∃ b off x, A = some ⟨b, off, none⟩ ∧ l[k]? = some x ∧ w.cell? ⟨b, off + k, none⟩ = some (g x) := by
  obtain ⟨b, off, e, hk', hc⟩ := h.at_ (sz := 1) (fun x => by rw [hf]; rfl) (by omega) hk
  refine ⟨b, off, l[k], e, List.getElem?_eq_getElem hk', ?_⟩
  have h0 := hc 0 (by omega)
  simp only [hf, Nat.mul_one, Nat.add_zero] at h0
  exact h0
set_option maxRecDepth 100000 in
set_option maxHeartbeats 2000000 in
theorem mapn_spec (A : Option Addr) (n c : Nat) (l : List Int) (w : World) (hI : Is nbc w A n l) (hn : n ≤ 1000000) (hbd : ∀ x ∈ l, -9223372036854775808 ≤ x ∧ x ≤ 9223372036854775807) : Calls Tryz.prog 157 #[.func (.func 158) #[] #[], .slice A n c] w (MappedW w n (l.map numV)) := by
  have HI := Lib.hid hI
  have HL := Lib.hid hI.1
  have HBD := Lib.hid hbd
  clear hI hbd
  go_enter Tryz.func157, Tryz.ntmps157
  go_wp2_with fail
  go_loopw [4, 9] (fun s u wr => ∃ k : Nat, k ≤ n ∧ u = .int .i64 k ∧ ∃ A c, s = .slice A k c ∧ OwnV wr w.heap.size A k c (((l.take k).map numV).map vv) ∧ Below w.heap.size w wr) (fun _ u _ => n - (intOf u).toNat)
  case atStart => exact ⟨0, Nat.zero_le _, rfl, none, 0, rfl, Own.nil _ _, Below.refl _ _⟩
  case round =>
    obtain ⟨k, hk, rfl, A, c, rfl, ho, hbr⟩ := hrel
    have HO := Lib.hid ho
    have HBR := Lib.hid hbr
    have hIr := HI.out.pure hbr
    clear ho hbr
    by_cases hlt : k < n
    · obtain ⟨g, off, x, e, hx, v0⟩ := is1_at (fun _ => rfl) hIr hlt
      have HT := Lib.hid (show ((l.take (k + 1)).map numV).map vv = ((l.take k).map numV).map vv ++ [vv (numV x)] by
        obtain ⟨q1, q2⟩ := List.getElem?_eq_some_iff.1 hx
        rw [List.take_succ_eq_append_getElem q1, q2, List.map_append, List.map_append]; rfl)
      have HX := Lib.hid (HBD.out x (List.mem_of_getElem? hx))
      have hk0 : (0 : Int) ≤ (k : Int) := by omega
      have hkn : (k : Int) < (n : Int) := by omega
      rw [e]
      clear hIr hx e
      go_wp2_with fail
      go_at_call 158
      refine (num_spec x _ HX.out).mono ?_
      rintro e w2 ⟨rfl, hb⟩
      have HB2 := Lib.hid (pure_below HBR.out hb)
      have HO2 := Lib.hid (HO.out.pure hb)
      clear hb v0
      obtain ⟨y, hy⟩ : ∃ y, numV x = y := ⟨_, rfl⟩
      rw [hy] at HT ⊢
      clear hy
      have HB3 := Lib.hid (HB2.out.alloc HB2.out.size (.cells #[.int .i64 (y.t : Int), .int .i64 (y.w : Int), .int .u64 (y.n : Int)] 185))
      have HO3 := Lib.hid (HO2.out.pure ((Below.refl w2.heap.size w2).alloc (Nat.le_refl _) (.cells #[.int .i64 (y.t : Int), .int .i64 (y.w : Int), .int .u64 (y.n : Int)] 185)))
      have HI3 := Lib.hid (isv_lit w2 y)
      go_wp2_with (at_builtin; refine wpl_app _ rfl (.tmp 13) (.tmp 17) _ rfl 185 _ 3 24 Tryz.underlying160 info_v rfl (by omega) vc_len vc_one _ _ _ _ _ rfl HO3.out _ _ _ _ rfl HI3.out (by omega) HB3.out.size ?_; intro A1 c1 w1 hown1 hfr1 hat1)
      have HO4 := Lib.hid hown1
      have HB4 := Lib.hid (below_fr HB3.out hfr1 (by rintro j ⟨ad, e, rfl⟩; exact (HO3.out.addr ad e).2.1))
      clear hown1 hfr1 hat1
      go_wp2_with fail
      go_roundw
      case rel => exact ⟨k + 1, by omega, by go_num, A1, c1, rfl, by rw [HT.out]; exact HO4.out, HB4.out⟩
      case measure => simp [intOf]; omega
    · obtain rfl : k = n := by omega
      have HE := Lib.hid (show l.take k = l from List.take_of_length_le (by have := HL.out; omega))
      rw [HE.out] at HO
      clear hIr
      go_wp2_with fail
      go_ret
      exact ⟨A, c, rfl, HO.out, HBR.out⟩
set_option maxRecDepth 100000 in
set_option maxHeartbeats 2000000 in
theorem mapu_spec (A : Option Addr) (n c : Nat) (l : List Nat) (w : World) (hI : Is ubc w A n l) (hn : n ≤ 1000000) (hbd : ∀ x ∈ l, x < 18446744073709551616) : Calls Tryz.prog 159 #[.func (.func 160) #[] #[], .slice A n c] w (MappedW w n (l.map unsV)) := by
  have HI := Lib.hid hI
  have HL := Lib.hid hI.1
  have HBD := Lib.hid hbd
  clear hI hbd
  go_enter Tryz.func159, Tryz.ntmps159
  go_wp2_with fail
  go_loopw [4, 9] (fun s u wr => ∃ k : Nat, k ≤ n ∧ u = .int .i64 k ∧ ∃ A c, s = .slice A k c ∧ OwnV wr w.heap.size A k c (((l.take k).map unsV).map vv) ∧ Below w.heap.size w wr) (fun _ u _ => n - (intOf u).toNat)
  case atStart => exact ⟨0, Nat.zero_le _, rfl, none, 0, rfl, Own.nil _ _, Below.refl _ _⟩
  case round =>
    obtain ⟨k, hk, rfl, A, c, rfl, ho, hbr⟩ := hrel
    have HO := Lib.hid ho
    have HBR := Lib.hid hbr
    have hIr := HI.out.pure hbr
    clear ho hbr
    by_cases hlt : k < n
    · obtain ⟨g, off, x, e, hx, v0⟩ := is1_at (fun _ => rfl) hIr hlt
      have HT := Lib.hid (show ((l.take (k + 1)).map unsV).map vv = ((l.take k).map unsV).map vv ++ [vv (unsV x)] by
        obtain ⟨q1, q2⟩ := List.getElem?_eq_some_iff.1 hx
        rw [List.take_succ_eq_append_getElem q1, q2, List.map_append, List.map_append]; rfl)
      have HX := Lib.hid (HBD.out x (List.mem_of_getElem? hx))
      have hk0 : (0 : Int) ≤ (k : Int) := by omega
      have hkn : (k : Int) < (n : Int) := by omega
      rw [e]
      clear hIr hx e
      go_wp2_with fail
      go_at_call 160
      refine (uns_spec x _ HX.out).mono ?_
      rintro e w2 ⟨rfl, hb⟩
      have HB2 := Lib.hid (pure_below HBR.out hb)
      have HO2 := Lib.hid (HO.out.pure hb)
      clear hb v0
      obtain ⟨y, hy⟩ : ∃ y, unsV x = y := ⟨_, rfl⟩
      rw [hy] at HT ⊢
      clear hy
      have HB3 := Lib.hid (HB2.out.alloc HB2.out.size (.cells #[.int .i64 (y.t : Int), .int .i64 (y.w : Int), .int .u64 (y.n : Int)] 185))
      have HO3 := Lib.hid (HO2.out.pure ((Below.refl w2.heap.size w2).alloc (Nat.le_refl _) (.cells #[.int .i64 (y.t : Int), .int .i64 (y.w : Int), .int .u64 (y.n : Int)] 185)))
      have HI3 := Lib.hid (isv_lit w2 y)
      go_wp2_with (at_builtin; refine wpl_app _ rfl (.tmp 13) (.tmp 17) _ rfl 185 _ 3 24 Tryz.underlying160 info_v rfl (by omega) vc_len vc_one _ _ _ _ _ rfl HO3.out _ _ _ _ rfl HI3.out (by omega) HB3.out.size ?_; intro A1 c1 w1 hown1 hfr1 hat1)
      have HO4 := Lib.hid hown1
      have HB4 := Lib.hid (below_fr HB3.out hfr1 (by rintro j ⟨ad, e, rfl⟩; exact (HO3.out.addr ad e).2.1))
      clear hown1 hfr1 hat1
      go_wp2_with fail
      go_roundw
      case rel => exact ⟨k + 1, by omega, by go_num, A1, c1, rfl, by rw [HT.out]; exact HO4.out, HB4.out⟩
      case measure => simp [intOf]; omega
    · obtain rfl : k = n := by omega
      have HE := Lib.hid (show l.take k = l from List.take_of_length_le (by have := HL.out; omega))
      rw [HE.out] at HO
      clear hIr
      go_wp2_with fail
      go_ret
      exact ⟨A, c, rfl, HO.out, HBR.out⟩
def boolV (b : Bool) : Bv := ⟨26, 1, if b = true then 1 else 0⟩
theorem truth_b (b : Bool) (w : World) : Calls Tryz.prog 162 #[.bool b] w fun e w' => e = .returned (.agg #[.int .i64 ((boolV b).t : Int), .int .i64 ((boolV b).w : Int), .int .u64 ((boolV b).n : Int)]) ∧ Below w.heap.size w w' := by
  cases b with
  | true => exact truth_spec 1 true w rfl
  | false => exact truth_spec 0 false w rfl
set_option maxRecDepth 100000 in
set_option maxHeartbeats 2000000 in
theorem mapb_spec (A : Option Addr) (n c : Nat) (l : List Bool) (w : World) (hI : Is bbc w A n l) (hn : n ≤ 1000000) (hbd : ∀ x ∈ l, x = true ∨ x = false) : Calls Tryz.prog 161 #[.func (.func 162) #[] #[], .slice A n c] w (MappedW w n (l.map boolV)) := by
  have HI := Lib.hid hI
  have HL := Lib.hid hI.1
  have HBD := Lib.hid hbd
  clear hI hbd
  go_enter Tryz.func161, Tryz.ntmps161
  go_wp2_with fail
  go_loopw [4, 9] (fun s u wr => ∃ k : Nat, k ≤ n ∧ u = .int .i64 k ∧ ∃ A c, s = .slice A k c ∧ OwnV wr w.heap.size A k c (((l.take k).map boolV).map vv) ∧ Below w.heap.size w wr) (fun _ u _ => n - (intOf u).toNat)
  case atStart => exact ⟨0, Nat.zero_le _, rfl, none, 0, rfl, Own.nil _ _, Below.refl _ _⟩
  case round =>
    obtain ⟨k, hk, rfl, A, c, rfl, ho, hbr⟩ := hrel
    have HO := Lib.hid ho
    have HBR := Lib.hid hbr
    have hIr := HI.out.pure hbr
    clear ho hbr
    by_cases hlt : k < n
    · obtain ⟨g, off, x, e, hx, v0⟩ := is1_at (fun _ => rfl) hIr hlt
      have HT := Lib.hid (show ((l.take (k + 1)).map boolV).map vv = ((l.take k).map boolV).map vv ++ [vv (boolV x)] by
        obtain ⟨q1, q2⟩ := List.getElem?_eq_some_iff.1 hx
        rw [List.take_succ_eq_append_getElem q1, q2, List.map_append, List.map_append]; rfl)
      have HX := Lib.hid (HBD.out x (List.mem_of_getElem? hx))
      have hk0 : (0 : Int) ≤ (k : Int) := by omega
      have hkn : (k : Int) < (n : Int) := by omega
      rw [e]
      clear hIr hx e
      go_wp2_with fail
      go_at_call 162
      refine (truth_b x _).mono ?_
      rintro e w2 ⟨rfl, hb⟩
      have HB2 := Lib.hid (pure_below HBR.out hb)
      have HO2 := Lib.hid (HO.out.pure hb)
      clear hb v0
      obtain ⟨y, hy⟩ : ∃ y, boolV x = y := ⟨_, rfl⟩
      rw [hy] at HT ⊢
      clear hy
      have HB3 := Lib.hid (HB2.out.alloc HB2.out.size (.cells #[.int .i64 (y.t : Int), .int .i64 (y.w : Int), .int .u64 (y.n : Int)] 185))
      have HO3 := Lib.hid (HO2.out.pure ((Below.refl w2.heap.size w2).alloc (Nat.le_refl _) (.cells #[.int .i64 (y.t : Int), .int .i64 (y.w : Int), .int .u64 (y.n : Int)] 185)))
      have HI3 := Lib.hid (isv_lit w2 y)
      go_wp2_with (at_builtin; refine wpl_app _ rfl (.tmp 13) (.tmp 17) _ rfl 185 _ 3 24 Tryz.underlying160 info_v rfl (by omega) vc_len vc_one _ _ _ _ _ rfl HO3.out _ _ _ _ rfl HI3.out (by omega) HB3.out.size ?_; intro A1 c1 w1 hown1 hfr1 hat1)
      have HO4 := Lib.hid hown1
      have HB4 := Lib.hid (below_fr HB3.out hfr1 (by rintro j ⟨ad, e, rfl⟩; exact (HO3.out.addr ad e).2.1))
      clear hown1 hfr1 hat1
      go_wp2_with fail
      go_roundw
      case rel => exact ⟨k + 1, by omega, by go_num, A1, c1, rfl, by rw [HT.out]; exact HO4.out, HB4.out⟩
      case measure => simp [intOf]; omega
    · obtain rfl : k = n := by omega
      have HE := Lib.hid (show l.take k = l from List.take_of_length_le (by have := HL.out; omega))
      rw [HE.out] at HO
      clear hIr
      go_wp2_with fail
      go_ret
      exact ⟨A, c, rfl, HO.out, HBR.out⟩
end Go.Proofs.YtfoifdoaleaekaaGreat

namespace Go.Proofs.YtfoifdoaleaekaaGreat
open Go.RowKit Go.Acc
theorem numv_ok {l : List Int} {b : List UInt8} (hl : b.length + 40 + 9 * l.length ≤ 1048576) : VecOk (l.map numV) b :=
  ⟨fun v h => by obtain ⟨x, _, rfl⟩ := List.mem_map.1 h; exact (show legalT ((1 : Nat) : Int) = true by decide), fun v h => by obtain ⟨x, _, rfl⟩ := List.mem_map.1 h; exact bWidthI_is x,
    fun v h => by obtain ⟨x, _, rfl⟩ := List.mem_map.1 h; exact numV_fit x _, by rw [List.length_map]; exact hl⟩
theorem unsv_ok {l : List Nat} {b : List UInt8} (hl : b.length + 40 + 9 * l.length ≤ 1048576) : VecOk (l.map unsV) b :=
  ⟨fun v h => by obtain ⟨x, _, rfl⟩ := List.mem_map.1 h; exact (show legalT ((2 : Nat) : Int) = true by decide), fun v h => by obtain ⟨x, _, rfl⟩ := List.mem_map.1 h; exact bWidth_is x,
    fun v h => by obtain ⟨x, _, rfl⟩ := List.mem_map.1 h; exact unsV_fit x _, by rw [List.length_map]; exact hl⟩
theorem boolv_ok {l : List Bool} {b : List UInt8} (hl : b.length + 40 + 9 * l.length ≤ 1048576) : VecOk (l.map boolV) b :=
  ⟨fun v h => by obtain ⟨x, _, rfl⟩ := List.mem_map.1 h; exact (show legalT ((26 : Nat) : Int) = true by decide), fun v h => by obtain ⟨x, _, rfl⟩ := List.mem_map.1 h; exact (show isW ((1 : Nat) : Int) = true by decide),
    fun v h => by obtain ⟨x, _, rfl⟩ := List.mem_map.1 h; exact ⟨fun _ => (show 1 ≤ 8 by omega), fun h => absurd h (show ¬ inl 26 = false by decide)⟩, by rw [List.length_map]; exact hl⟩
theorem puts_t0 {M : Bp} {l : List UInt8} {e : Nat} {A : Option Addr} {n c : Nat} {vs : List Bv} (hok : VecOk vs l) (hty : TyOk e 0) (hel : ∀ v ∈ vs, v.t = e) : PutsV M l e 0 A n c vs (bVec (vecTy e 0) true false vs l) :=
  fun W O hb hv ho => vput_t0 M.bb e n c A vs l W O hb hv ho hok hty hel
theorem puts_tm {M : Bp} {l : List UInt8} {e : Nat} {A : Option Addr} {n c : Nat} {vs : List Bv} (hok : VecOk vs l) (hty : TyOk e n) (hn : 0 < n) (hel : ∀ v ∈ vs, v.t = e) : PutsV M l e n A n c vs (bVec (vecTy e n) false false vs l) :=
  fun W O hb hv ho => vput_tm M.bb e n c A vs l W O hb hv ho hok hty hn hel
theorem puts_un {M : Bp} {l : List UInt8} {A : Option Addr} {n c : Nat} {vs : List Bv} (hok : VecOk vs l) : PutsV M l (-1) 0 A n c vs (bVec 10 true true vs l) :=
  fun W O hb hv ho => vput_un M.bb n c A vs l W O hb hv ho hok
set_option maxHeartbeats 1000000 in
theorem ints_spec (M : Bp) (fl : Int) (b : Bd) (A : Option Addr) (n c : Nat) (l : List Int) (w : World) (o : Nat → Nat) (h : BM M fl w o b) (hI : Is nbc w A n l) (hn : n ≤ 1000000) (hs : b.s.length < 65536) (hbd : ∀ x ∈ l, -9223372036854775808 ≤ x ∧ x ≤ 9223372036854775807) (hl : b.b.length + 40 + 9 * l.length ≤ 1048576) :
    Calls Tryz.prog 104 #[.pointer (some ⟨M.β, 0, none⟩), .slice A n c] w (BTo M fl (b.vec 11 true false (l.map numV)) w o) := by
  have HM := Lib.hid h
  have HI := Lib.hid hI
  have HS := Lib.hid hs
  have HBD := Lib.hid hbd
  have HL := Lib.hid hl
  clear h hI hs hbd hl
  go_enter Tryz.func104, Tryz.ntmps104
  go_wp2_with fail
  go_at_call 157
  refine (mapn_spec A n c l _ HI.out hn HBD.out).mono ?_
  rintro e w1 ⟨A1, c1, rfl, hO, hb⟩
  have HM1 := Lib.hid (HM.out.fresh hb 0)
  have HO1 := Lib.hid hO
  have HB1 := Lib.hid hb
  clear hO hb
  have HP := Lib.hid (puts_t0 (M := M) (A := A1) (n := n) (c := c1) (numv_ok HL.out) (e := 1) (by unfold TyOk; omega) (fun v hv => by obtain ⟨x, _, rfl⟩ := List.mem_map.1 hv; rfl))
  go_wp2_with fail
  go_at_call 156
  refine (vector_spec M fl b ((1 : Nat) : Int) 0 A1 n c1 (l.map numV) (bVec 11 true false (l.map numV) b.b).1 (bVec 11 true false (l.map numV) b.b).2 w1 _ HM1.out HO1.out.is (fun ad e => ⟨(HO1.out.addr ad e).2.2, newO_new (HO1.out.addr ad e).2.1⟩) HS.out HP.out).mono ?_
  rintro e w2 hR
  obtain rfl := hR.1
  have HR := Lib.hid (BTo.from_fresh HB1.out hR)
  clear hR
  go_wp2_with fail
  go_end0
  exact HR.out
set_option maxHeartbeats 1000000 in
theorem uints_spec (M : Bp) (fl : Int) (b : Bd) (A : Option Addr) (n c : Nat) (l : List Nat) (w : World) (o : Nat → Nat) (h : BM M fl w o b) (hI : Is ubc w A n l) (hn : n ≤ 1000000) (hs : b.s.length < 65536) (hbd : ∀ x ∈ l, x < 18446744073709551616) (hl : b.b.length + 40 + 9 * l.length ≤ 1048576) :
    Calls Tryz.prog 107 #[.pointer (some ⟨M.β, 0, none⟩), .slice A n c] w (BTo M fl (b.vec 12 true false (l.map unsV)) w o) := by
  have HM := Lib.hid h
  have HI := Lib.hid hI
  have HS := Lib.hid hs
  have HBD := Lib.hid hbd
  have HL := Lib.hid hl
  clear h hI hs hbd hl
  go_enter Tryz.func107, Tryz.ntmps107
  go_wp2_with fail
  go_at_call 159
  refine (mapu_spec A n c l _ HI.out hn HBD.out).mono ?_
  rintro e w1 ⟨A1, c1, rfl, hO, hb⟩
  have HM1 := Lib.hid (HM.out.fresh hb 0)
  have HO1 := Lib.hid hO
  have HB1 := Lib.hid hb
  clear hO hb
  have HP := Lib.hid (puts_t0 (M := M) (A := A1) (n := n) (c := c1) (unsv_ok HL.out) (e := 2) (by unfold TyOk; omega) (fun v hv => by obtain ⟨x, _, rfl⟩ := List.mem_map.1 hv; rfl))
  go_wp2_with fail
  go_at_call 156
  refine (vector_spec M fl b ((2 : Nat) : Int) 0 A1 n c1 (l.map unsV) (bVec 12 true false (l.map unsV) b.b).1 (bVec 12 true false (l.map unsV) b.b).2 w1 _ HM1.out HO1.out.is (fun ad e => ⟨(HO1.out.addr ad e).2.2, newO_new (HO1.out.addr ad e).2.1⟩) HS.out HP.out).mono ?_
  rintro e w2 hR
  obtain rfl := hR.1
  have HR := Lib.hid (BTo.from_fresh HB1.out hR)
  clear hR
  go_wp2_with fail
  go_end0
  exact HR.out
set_option maxHeartbeats 1000000 in
theorem bools_spec (M : Bp) (fl : Int) (b : Bd) (A : Option Addr) (n c : Nat) (l : List Bool) (w : World) (o : Nat → Nat) (h : BM M fl w o b) (hI : Is bbc w A n l) (hn : n ≤ 1000000) (hs : b.s.length < 65536) (hbd : ∀ x ∈ l, x = true ∨ x = false) (hl : b.b.length + 40 + 9 * l.length ≤ 1048576) :
    Calls Tryz.prog 110 #[.pointer (some ⟨M.β, 0, none⟩), .slice A n c] w (BTo M fl (b.vec 36 true false (l.map boolV)) w o) := by
  have HM := Lib.hid h
  have HI := Lib.hid hI
  have HS := Lib.hid hs
  have HBD := Lib.hid hbd
  have HL := Lib.hid hl
  clear h hI hs hbd hl
  go_enter Tryz.func110, Tryz.ntmps110
  go_wp2_with fail
  go_at_call 161
  refine (mapb_spec A n c l _ HI.out hn HBD.out).mono ?_
  rintro e w1 ⟨A1, c1, rfl, hO, hb⟩
  have HM1 := Lib.hid (HM.out.fresh hb 0)
  have HO1 := Lib.hid hO
  have HB1 := Lib.hid hb
  clear hO hb
  have HP := Lib.hid (puts_t0 (M := M) (A := A1) (n := n) (c := c1) (boolv_ok HL.out) (e := 26) (by unfold TyOk; omega) (fun v hv => by obtain ⟨x, _, rfl⟩ := List.mem_map.1 hv; rfl))
  go_wp2_with fail
  go_at_call 156
  refine (vector_spec M fl b ((26 : Nat) : Int) 0 A1 n c1 (l.map boolV) (bVec 36 true false (l.map boolV) b.b).1 (bVec 36 true false (l.map boolV) b.b).2 w1 _ HM1.out HO1.out.is (fun ad e => ⟨(HO1.out.addr ad e).2.2, newO_new (HO1.out.addr ad e).2.1⟩) HS.out HP.out).mono ?_
  rintro e w2 hR
  obtain rfl := hR.1
  have HR := Lib.hid (BTo.from_fresh HB1.out hR)
  clear hR
  go_wp2_with fail
  go_end0
  exact HR.out
end Go.Proofs.YtfoifdoaleaekaaGreat

namespace Go.Proofs.YtfoifdoaleaekaaGreat
open Go.RowKit Go.Acc
set_option maxHeartbeats 1000000 in
theorem fixed1_spec (M : Bp) (fl : Int) (b : Bd) (em : Int) (A : Option Addr) (n c : Nat) (vs : List Bv) (l' : List UInt8) (v' : Bv) (bx be bl : Nat) (w : World) (o : Nat → Nat) (h : BM M fl w o b) (hx : Blk w bx 122 #[.pointer (some ⟨M.β, 0, none⟩)]) (he : Blk w be 3 #[.int .i64 em]) (hl : Blk w bl 160 #[.slice A n c])
    (hv : IsV w A n (vs.map vv)) (ho : ∀ ad, A = some ad → ad.block < w.heap.size ∧ o ad.block = 0) (hs : b.s.length < 65536) (hn : n = 2 ∨ n = 3 ∨ n = 4) (hP : PutsV M b.b em n A n c vs (l', v')) :
    Calls Tryz.prog 220 #[.pointer (some ⟨bl, 0, none⟩), .pointer (some ⟨bx, 0, none⟩), .pointer (some ⟨be, 0, none⟩)] w (BTo M fl { b with b := l', s := b.s ++ [v'] } w o) := by
  have HV := Lib.hid (vector_spec M fl b em n A n c vs l' v' w o h hv ho hs hP)
  have x0 : w.cell? ⟨bx, 0, none⟩ = some (.pointer (some ⟨M.β, 0, none⟩)) := hx.cell 0
  have e0 : w.cell? ⟨be, 0, none⟩ = some (.int .i64 em) := he.cell 0
  have l0 : w.cell? ⟨bl, 0, none⟩ = some (.slice A n c) := hl.cell 0
  have d1 : decide ((n : Int) < 2) = false := decide_eq_false (by omega)
  have d2 : decide ((4 : Int) < (n : Int)) = false := decide_eq_false (by omega)
  have d3 : decide (n < 2) = false := decide_eq_false (by omega)
  have d4 : decide (4 < n) = false := decide_eq_false (by omega)
  clear h hx he hl hv ho hs hn hP
  go_enter Tryz.func220, Tryz.ntmps220
  go_wp2_with fail
  go_at_call 156
  refine HV.out.mono ?_
  rintro e w2 hR
  obtain rfl := hR.1
  have HR := Lib.hid hR
  clear hR x0 e0 l0
  go_wp2_with fail
  go_end0
  exact HR.out
set_option maxHeartbeats 1000000 in
theorem fixed_spec (M : Bp) (fl : Int) (b : Bd) (em : Int) (A : Option Addr) (n c : Nat) (vs : List Bv) (l' : List UInt8) (v' : Bv) (w : World) (o : Nat → Nat) (h : BM M fl w o b) (hv : IsV w A n (vs.map vv)) (ho : ∀ ad, A = some ad → ad.block < w.heap.size ∧ o ad.block = 0) (hs : b.s.length < 65536)
    (hn : n = 2 ∨ n = 3 ∨ n = 4) (hP : PutsV M b.b em n A n c vs (l', v')) :
    Calls Tryz.prog 167 #[.pointer (some ⟨M.β, 0, none⟩), .int .i64 em, .slice A n c] w (BTo M fl { b with b := l', s := b.s ++ [v'] } w o) := by
  have hB := below_three w (.cells #[.pointer (some ⟨M.β, 0, none⟩)] 122) (.cells #[.int .i64 em] 3) (.cells #[.slice A n c] 160)
  have HB := Lib.hid hB
  have HM := Lib.hid (h.fresh hB 0)
  have HF := Lib.hid (fixed1_spec M fl b em A n c vs l' v' w.heap.size (w.heap.size + 1) (w.heap.size + 1 + 1) _ (newO o w.heap.size 0) (h.fresh hB 0) (((Blk.new w 122 #[.pointer (some ⟨M.β, 0, none⟩)]).alloc _).alloc _) ((blk_new2 w _ 3 #[.int .i64 em]).alloc _) (blk_new3 w _ _ 160 #[.slice A n c])
    (hv.pure hB) (fun ad e => ⟨by have h1 := (ho ad e).1; have h2 := hB.size; omega, by rw [newO_old (ho ad e).1]; exact (ho ad e).2⟩) hs hn hP)
  clear h hs hB hP hv ho hn
  go_enter Tryz.func167, Tryz.ntmps167
  go_wp2_with fail
  go_at_call 163
  refine (unless_spec M fl 220 _ _ (newO o w.heap.size 0) b.vals _ HM.out.head Tryz.call220 (HF.out.mono fun e w' h => ⟨h.1, h⟩)).mono ?_
  rintro e w' hR
  obtain rfl := hR.1
  have HR := Lib.hid (hR.from_fresh HB.out)
  clear hR
  go_wp2
  go_end0
  exact HR.out
set_option maxHeartbeats 1000000 in
theorem fixints_spec (M : Bp) (fl : Int) (b : Bd) (A : Option Addr) (n c : Nat) (l : List Int) (w : World) (o : Nat → Nat) (h : BM M fl w o b) (hI : Is nbc w A n l) (hn : n = 2 ∨ n = 3 ∨ n = 4) (hs : b.s.length < 65536) (hbd : ∀ x ∈ l, -9223372036854775808 ≤ x ∧ x ≤ 9223372036854775807) (hl : b.b.length + 40 + 9 * l.length ≤ 1048576) :
    Calls Tryz.prog 116 #[.pointer (some ⟨M.β, 0, none⟩), .slice A n c] w (BTo M fl (b.vec (10 + 3 * n) false false (l.map numV)) w o) := by
  have HM := Lib.hid h
  have HI := Lib.hid hI
  have HS := Lib.hid hs
  have HBD := Lib.hid hbd
  have HL := Lib.hid hl
  have HN := Lib.hid hn
  have hn1 : n ≤ 1000000 := by omega
  have HT := Lib.hid (show vecTy 1 n = 10 + 3 * n by rcases hn with rfl | rfl | rfl <;> rfl)
  clear h hI hs hbd hl hn
  go_enter Tryz.func116, Tryz.ntmps116
  go_wp2_with fail
  go_at_call 157
  refine (mapn_spec A n c l _ HI.out hn1 HBD.out).mono ?_
  rintro e w1 ⟨A1, c1, rfl, hO, hb⟩
  have HM1 := Lib.hid (HM.out.fresh hb 0)
  have HO1 := Lib.hid hO
  have HB1 := Lib.hid hb
  clear hO hb
  have HP := Lib.hid (puts_tm (M := M) (A := A1) (n := n) (c := c1) (numv_ok HL.out) (e := 1) (by have := HN.out; unfold TyOk; omega) (by have := HN.out; omega) (fun v hv => by obtain ⟨x, _, rfl⟩ := List.mem_map.1 hv; rfl))
  rw [HT.out] at HP
  go_wp2_with fail
  go_at_call 167
  refine (fixed_spec M fl b ((1 : Nat) : Int) A1 n c1 (l.map numV) (bVec (10 + 3 * n) false false (l.map numV) b.b).1 (bVec (10 + 3 * n) false false (l.map numV) b.b).2 w1 _ HM1.out HO1.out.is (fun ad e => ⟨(HO1.out.addr ad e).2.2, newO_new (HO1.out.addr ad e).2.1⟩) HS.out HN.out HP.out).mono ?_
  rintro e w2 hR
  obtain rfl := hR.1
  have HR := Lib.hid (BTo.from_fresh HB1.out hR)
  clear hR
  go_wp2_with fail
  go_end0
  exact HR.out
set_option maxHeartbeats 1000000 in
theorem fixuints_spec (M : Bp) (fl : Int) (b : Bd) (A : Option Addr) (n c : Nat) (l : List Nat) (w : World) (o : Nat → Nat) (h : BM M fl w o b) (hI : Is ubc w A n l) (hn : n = 2 ∨ n = 3 ∨ n = 4) (hs : b.s.length < 65536) (hbd : ∀ x ∈ l, x < 18446744073709551616) (hl : b.b.length + 40 + 9 * l.length ≤ 1048576) :
    Calls Tryz.prog 117 #[.pointer (some ⟨M.β, 0, none⟩), .slice A n c] w (BTo M fl (b.vec (11 + 3 * n) false false (l.map unsV)) w o) := by
  have HM := Lib.hid h
  have HI := Lib.hid hI
  have HS := Lib.hid hs
  have HBD := Lib.hid hbd
  have HL := Lib.hid hl
  have HN := Lib.hid hn
  have hn1 : n ≤ 1000000 := by omega
  have HT := Lib.hid (show vecTy 2 n = 11 + 3 * n by rcases hn with rfl | rfl | rfl <;> rfl)
  clear h hI hs hbd hl hn
  go_enter Tryz.func117, Tryz.ntmps117
  go_wp2_with fail
  go_at_call 159
  refine (mapu_spec A n c l _ HI.out hn1 HBD.out).mono ?_
  rintro e w1 ⟨A1, c1, rfl, hO, hb⟩
  have HM1 := Lib.hid (HM.out.fresh hb 0)
  have HO1 := Lib.hid hO
  have HB1 := Lib.hid hb
  clear hO hb
  have HP := Lib.hid (puts_tm (M := M) (A := A1) (n := n) (c := c1) (unsv_ok HL.out) (e := 2) (by have := HN.out; unfold TyOk; omega) (by have := HN.out; omega) (fun v hv => by obtain ⟨x, _, rfl⟩ := List.mem_map.1 hv; rfl))
  rw [HT.out] at HP
  go_wp2_with fail
  go_at_call 167
  refine (fixed_spec M fl b ((2 : Nat) : Int) A1 n c1 (l.map unsV) (bVec (11 + 3 * n) false false (l.map unsV) b.b).1 (bVec (11 + 3 * n) false false (l.map unsV) b.b).2 w1 _ HM1.out HO1.out.is (fun ad e => ⟨(HO1.out.addr ad e).2.2, newO_new (HO1.out.addr ad e).2.1⟩) HS.out HN.out HP.out).mono ?_
  rintro e w2 hR
  obtain rfl := hR.1
  have HR := Lib.hid (BTo.from_fresh HB1.out hR)
  clear hR
  go_wp2_with fail
  go_end0
  exact HR.out
end Go.Proofs.YtfoifdoaleaekaaGreat
