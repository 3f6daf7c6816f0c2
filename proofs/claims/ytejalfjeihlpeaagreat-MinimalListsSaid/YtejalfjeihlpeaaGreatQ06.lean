/-
  Package le: appending and setting integers.
  Package le: setting integers; the reference's Put, PutInt, Set; spoiling.
  Package le: the reference's Put, PutInt, Set; spoiling.
  Package le: spoiling bytes, bringing numbers into a range, widths.
  Package le: the examples of the chapter.
-/
import Derived.Test.YtejalfjeihlpeaaGreatQ05
namespace Go.Proofs.YtejalfjeihlpeaaGreat
open Go.RowKit Go.Acc

/-- A stretch of an owned row of bytes is replaced. -/
theorem own_seg {w : World} {B g n c : Nat} {l : List UInt8} (h : OwnB w B (some ⟨g, 0, none⟩) n c l) : ∃ cur, Blk w g 5 cur ∧ n ≤ cur.size ∧
    (∀ (w' : World) (cur' : Array Value) (off k : Nat) (m : List UInt8), Blk w' g 5 cur' → Seg cur off (m.flatMap bc) k cur' → m.length = k → off + k ≤ n → OwnB w' B (some ⟨g, 0, none⟩) n c (l.take off ++ m ++ l.drop (off + k))) := by
  obtain ⟨hl, h1, h2⟩ := h
  rcases h2 with ⟨hv, _⟩ | ⟨g', cap, cur, hv, hb, hg, hnc, hcm, hcs, htake⟩
  · cases hv
  · injection hv with e1 _ e3
    injection e1 with e1
    injection e1 with e1
    subst e1 e3
    simp only [Nat.mul_one] at hcs htake h1
    refine ⟨cur, hg, by omega, ?_⟩
    intro w' cur' off k m hB hS hm hk
    refine ⟨by simp; omega, ?_, .inr ⟨g, c, cur', rfl, hb, hB, hnc, hcm, by rw [hS.1, Nat.mul_one]; exact hcs, ?_⟩⟩
    · rw [fm_length bc_len]; simp; omega
    · rw [Nat.mul_one, hS.take (by rw [fm_length bc_len]; omega) hk (by omega), htake, List.flatMap_append, List.flatMap_append, fm_take bc_len, fm_drop bc_len, Nat.mul_one, Nat.mul_one]

def putE (x : Int) (b : Bool) : Int := if isW x = true then (if b = true then 0 else 10) else 2
def putB (l : List UInt8) (x : Int) (u : Nat) (b : Bool) : List UInt8 := if isW x = true ∧ b = true then l ++ leBytes x.toNat u else []
def PutW (w : World) (m : List UInt8) (er : Int) (e : Ending) (w' : World) : Prop :=
  ∃ A n c, e = .returned (.tuple #[.slice A n c, .int .i64 er]) ∧ OwnB w' w.heap.size A n c m ∧ Below w.heap.size w w'
set_option maxHeartbeats 1000000 in
theorem behind_spec (A : Option Addr) (n c u F : Nat) (x : Int) (l : List UInt8) (caps : Array Value) (b : Bool) (w : World) (h : IsB w A n l) (hc : n ≤ c) (hn : n ≤ 1099511627776) (hu : (u : Int) < 18446744073709551616)
    (hF : ∀ (args : Array Value) (w : World), (callFunc F args).run Tryz.prog w = .ok (.enter F args) w)
    (hfit : isW x = true → Calls Tryz.prog F caps w fun e w' => e = .returned (.bool b) ∧ w = w') :
    Calls Tryz.prog 42 #[.slice A n c, .int .i64 x, .int .u64 u, .func (.func F) #[] caps] w (PutW w (putB l x u b) (putE x b)) := by
  have HR := Lib.hid h
  have HU := Lib.hid hu
  have HFIT := Lib.hid hfit
  clear h hu hfit
  cases hx : isW x with
  | false =>
    have e1 := Lib.hid (show putE x b = 2 by simp [putE, hx])
    have e2 := Lib.hid (show putB l x u b = [] by simp [putB, hx])
    have HX := Lib.hid hx
    clear hx
    go_enter Tryz.func42, Tryz.ntmps42
    go_wp2_with (go_at_call 81; refine (is_spec x _).mono ?_; rw [HX.out]; rintro e w' ⟨rfl, rfl⟩)
    go_ret2
    rw [e1.out, e2.out]
    exact ⟨none, 0, 0, rfl, Own.nil _ _, Below.refl _ _⟩
  | true =>
    cases b with
    | false =>
      have e1 := Lib.hid (show putE x false = 10 by simp [putE, hx])
      have e2 := Lib.hid (show putB l x u false = [] by simp [putB])
      have HX := Lib.hid hx
      clear hx
      go_enter Tryz.func42, Tryz.ntmps42
      go_wp2_with (go_at_call 81; refine (is_spec x _).mono ?_; rw [HX.out]; rintro e w' ⟨rfl, rfl⟩)
      refine (HFIT.out HX.out).mono ?_
      rintro e w' ⟨rfl, rfl⟩
      clear hF
      go_wp2
      go_ret2
      rw [e1.out, e2.out]
      exact ⟨none, 0, 0, rfl, Own.nil _ _, Below.refl _ _⟩
    | true =>
      have hx8 : (1 : Int) ≤ x ∧ (x : Int) ≤ 8 := by have := isW_iff.1 hx; omega
      obtain ⟨y, rfl⟩ : ∃ y : Nat, x = y := ⟨x.toNat, by omega⟩
      have hy1 : 1 ≤ y := by omega
      have hy8 : y ≤ 8 := by omega
      have e1 := Lib.hid (show putE y true = 0 by simp [putE, hx])
      have e2 := Lib.hid (show putB l y u true = l ++ leBytes y u by simp [putB, hx])
      have HX := Lib.hid hx
      clear hx hx8
      go_enter Tryz.func42, Tryz.ntmps42
      go_wp2_with (go_at_call 81; refine (is_spec y _).mono ?_; rw [HX.out]; rintro e w' ⟨rfl, rfl⟩)
      refine (HFIT.out HX.out).mono ?_
      rintro e w' ⟨rfl, rfl⟩
      clear hF
      go_wp2_with (first
        | (go_at_call 82; refine (cloneb_spec A n c l _ HR.out hn).mono ?_; rintro e w1 ⟨A1, n1, c1, rfl, hO1, hB1⟩; obtain rfl : n1 = n := (by rw [← hO1.1, HR.out.1]); have HO1 := Lib.hid hO1; have HB1 := Lib.hid hB1; clear hO1 hB1)
        | (at_builtin; refine wpl_zeros _ rfl (.tmp 20) (.tmp 21) _ _ rfl 5 _ 1 1 _ _ Tryz.underlying22 Tryz.underlying3 info_b rfl (by omega) bc_len bc_one (0 : UInt8) rfl _ _ _ _ _ rfl HO1.out y _ rfl rfl (by omega) (by omega) HB1.out.size ?_; intro A2 c2 w2 hown2 hfr2 hat2; have HO2 := Lib.hid hown2; have HF2 := Lib.hid hfr2; clear hown2 hfr2 hat2; have hcap2 := HO2.out.cap; rcases A2 with _ | ad2))
      · exact absurd (HO2.out.is.none_ bc_len (by omega)).2 (by omega)
      · obtain ⟨had, hge, hlt⟩ := HO2.out.addr ad2 rfl
        obtain ⟨g, rfl⟩ : ∃ g, ad2 = ⟨g, 0, none⟩ := ⟨_, had⟩
        obtain ⟨cur, hK, hsz, hback⟩ := own_seg HO2.out
        rw [add_none, Nat.zero_add]
        refine (digits_spec g n1 y (c2 - n1) u cur w2 hK (by omega) hy8 HU.out).mono ?_
        rintro e w3 ⟨rfl, cur3, hK3, hS3, hF3⟩
        have HO3 := Lib.hid (hback w3 cur3 n1 y _ hK3 hS3 (leBytes_length _ _) (Nat.le_refl _))
        have HF3 := Lib.hid hF3
        clear hK hback hK3 hS3 hF3
        go_wp2
        go_ret2
        rw [e1.out, e2.out]
        refine ⟨some ⟨g, 0, none⟩, n1 + y, c2, rfl, ?_, ?_⟩
        · have e3 := HO3.out
          rw [List.take_left' HR.out.1, List.drop_eq_nil_of_le (by simp [HR.out.1]), List.append_nil] at e3
          exact e3
        · refine below_fr (below_fr HB1.out HF2.out ?_) HF3.out ?_
          · rintro k ⟨ad, h, rfl⟩
            exact (HO1.out.addr ad h).2.1
          · rintro k rfl
            exact hge
/-- The caught width and integer. -/
theorem putc_spec (a b u : Nat) (x : Int) (w : World) (ha : Blk w a 3 #[.int .i64 x]) (hb : Blk w b 38 #[.int .u64 u]) (hx : isW x = true) (hu : (u : Int) < 18446744073709551616) :
    Calls Tryz.prog 43 #[.pointer (some ⟨a, 0, none⟩), .pointer (some ⟨b, 0, none⟩)] w fun e w' => e = .returned (.bool (fitsU x.toNat u)) ∧ w = w' := by
  obtain ⟨y, rfl⟩ : ∃ y : Nat, x = y := ⟨x.toNat, by have := isW_iff.1 hx; omega⟩
  have c1 : w.cell? ⟨a, 0, none⟩ = some (.int .i64 y) := ha.cell 0
  have c2 : w.cell? ⟨b, 0, none⟩ = some (.int .u64 u) := hb.cell 0
  have HX := Lib.hid hx
  have HU := Lib.hid hu
  clear ha hb hx hu
  go_enter Tryz.func43, Tryz.ntmps43
  go_wp2_with (go_at_call 44; refine (fits_spec y u w HX.out HU.out).mono ?_; rintro e w1 ⟨rfl, rfl⟩)
  go_ret
  exact ⟨rfl, rfl⟩
theorem putic_spec (a b : Nat) (n x : Int) (w : World) (ha : Blk w a 3 #[.int .i64 x]) (hb : Blk w b 2 #[.int .i64 n]) (hx : isW x = true) (hn : -9223372036854775808 ≤ n ∧ n ≤ 9223372036854775807) :
    Calls Tryz.prog 47 #[.pointer (some ⟨a, 0, none⟩), .pointer (some ⟨b, 0, none⟩)] w fun e w' => e = .returned (.bool (fitsI x.toNat n)) ∧ w = w' := by
  obtain ⟨y, rfl⟩ : ∃ y : Nat, x = y := ⟨x.toNat, by have := isW_iff.1 hx; omega⟩
  have c1 : w.cell? ⟨a, 0, none⟩ = some (.int .i64 y) := ha.cell 0
  have c2 : w.cell? ⟨b, 0, none⟩ = some (.int .i64 n) := hb.cell 0
  have HX := Lib.hid hx
  have HU := Lib.hid hn
  clear ha hb hx hn
  go_enter Tryz.func47, Tryz.ntmps47
  go_wp2_with (go_at_call 48; refine (fitsi_spec y n w HX.out HU.out.1 HU.out.2).mono ?_; rintro e w1 ⟨rfl, rfl⟩)
  go_ret
  exact ⟨rfl, rfl⟩
theorem putw_lift {w W : World} {m : List UInt8} {er : Int} {e : Ending} {w' : World} (hB : Below w.heap.size w W) (h : PutW W m er e w') : PutW w m er e w' := by
  obtain ⟨A, n, c, he, hO, hB'⟩ := h
  exact ⟨A, n, c, he, hO.rebase hB.size, pure_trans hB hB'⟩
theorem call_ (F : Nat) (h : ∀ (args : Array Value) (w : World), (callFunc F args).run Tryz.prog w = .ok (.enter F args) w) : ∀ (args : Array Value) (w : World), (callFunc F args).run Tryz.prog w = .ok (.enter F args) w := h
theorem wrapu (m : Int) : IntKind.u64.wrap m = (((m % 18446744073709551616).toNat : Nat) : Int) := by
  show m % 18446744073709551616 = _
  omega
theorem blk_new2 (w : World) (o : Obj) (t : TypeId) (cs : Array Value) : Blk ((w.alloc o).alloc (.cells cs t)) (w.heap.size + 1) t cs := by
  have h := Blk.new (w.alloc o) t cs
  have e : (w.alloc o).heap.size = w.heap.size + 1 := by simp
  rw [e] at h
  exact h
set_option maxHeartbeats 1000000 in
theorem put_spec (A : Option Addr) (n c u : Nat) (x : Int) (l : List UInt8) (w : World) (h : IsB w A n l) (hc : n ≤ c) (hn : n ≤ 1099511627776) (hu : (u : Int) < 18446744073709551616) :
    Calls Tryz.prog 20 #[.slice A n c, .int .i64 x, .int .u64 u] w (PutW w (putB l x u (fitsU x.toNat u)) (putE x (fitsU x.toNat u))) := by
  have HR := Lib.hid h
  have HU := Lib.hid hu
  have HV := HU
  clear h hu
  go_enter Tryz.func20, Tryz.ntmps20
  go_wp2_with fail
  skip
  have hK1 := (Blk.new w 3 #[.int .i64 x]).alloc (.cells #[.int .u64 (u : Int)] 38)
  have hK2 := blk_new2 w (.cells #[.int .i64 x] 3) 38 #[.int .u64 (u : Int)]
  have hfit := fun hx => putc_spec w.heap.size (w.heap.size + 1) u x _ hK1 hK2 hx HU.out
  have hI := (HR.out.alloc (.cells #[.int .i64 x] 3)).alloc (.cells #[.int .u64 (u : Int)] 38)
  refine (behind_spec A n c _ 43 x l _ _ _ hI hc hn HV.out Tryz.call43 hfit).mono ?_
  intro e w1 hP
  obtain ⟨A1, n1, c1, rfl, hO, hB⟩ := hP
  have HO := Lib.hid hO
  have HB := Lib.hid hB
  clear hO hB
  go_wp2
  go_ret2
  exact putw_lift (((Below.refl _ _).alloc (Nat.le_refl _) _).alloc (by simp) _) ⟨A1, n1, c1, rfl, HO.out, HB.out⟩
set_option maxHeartbeats 1000000 in
theorem puti_spec (A : Option Addr) (n c : Nat) (x m : Int) (l : List UInt8) (w : World) (h : IsB w A n l) (hc : n ≤ c) (hn : n ≤ 1099511627776) (hm : -9223372036854775808 ≤ m ∧ m ≤ 9223372036854775807) :
    Calls Tryz.prog 22 #[.slice A n c, .int .i64 x, .int .i64 m] w (PutW w (putB l x (m % 18446744073709551616).toNat (fitsI x.toNat m)) (putE x (fitsI x.toNat m))) := by
  have HR := Lib.hid h
  have HU := Lib.hid hm
  have HV := Lib.hid (show (((m % 18446744073709551616).toNat : Nat) : Int) < 18446744073709551616 by omega)
  clear h hm
  go_enter Tryz.func22, Tryz.ntmps22
  go_wp2_with fail
  rw [wrapu m]
  have hK1 := (Blk.new w 3 #[.int .i64 x]).alloc (.cells #[.int .i64 m] 2)
  have hK2 := blk_new2 w (.cells #[.int .i64 x] 3) 2 #[.int .i64 m]
  have hfit := fun hx => putic_spec w.heap.size (w.heap.size + 1) m x _ hK1 hK2 hx HU.out
  have hI := (HR.out.alloc (.cells #[.int .i64 x] 3)).alloc (.cells #[.int .i64 m] 2)
  refine (behind_spec A n c _ 47 x l _ _ _ hI hc hn HV.out Tryz.call47 hfit).mono ?_
  intro e w1 hP
  obtain ⟨A1, n1, c1, rfl, hO, hB⟩ := hP
  have HO := Lib.hid hO
  have HB := Lib.hid hB
  clear hO hB
  go_wp2
  go_ret2
  exact putw_lift (((Below.refl _ _).alloc (Nat.le_refl _) _).alloc (by simp) _) ⟨A1, n1, c1, rfl, HO.out, HB.out⟩
end Go.Proofs.YtejalfjeihlpeaaGreat

namespace Go.Proofs.YtejalfjeihlpeaaGreat
open Go.RowKit Go.Acc


def setE (n : Nat) (a x : Int) (b : Bool) : Int := if loadE n a x = 0 then (if b = true then 0 else 10) else loadE n a x
def setB (l : List UInt8) (a x : Int) (u : Nat) (b : Bool) : List UInt8 := if loadE l.length a x = 0 ∧ b = true then l.take a.toNat ++ leBytes x.toNat u ++ l.drop (a.toNat + x.toNat) else []
end Go.Proofs.YtejalfjeihlpeaaGreat

namespace Go.Proofs.YtejalfjeihlpeaaGreat
open Go.RowKit Go.Acc

end Go.Proofs.YtejalfjeihlpeaaGreat

namespace Go.Proofs.YtejalfjeihlpeaaGreat
open Go.RowKit Go.Acc

theorem tmod_pos {i n : Int} (hn : 0 < n) (h : 0 ≤ i.tmod n) : i.tmod n = i % n := by
  have h1 := Int.tmod_lt_of_pos i hn
  have h2 : (i.tmod n) % n = i % n := by rw [Int.tmod_def, Int.sub_emod, Int.mul_emod_right]; simp
  rw [← h2, Int.emod_eq_of_lt h h1]
theorem tmod_neg {i n : Int} (hn : 0 < n) (h : i.tmod n < 0) : i.tmod n + n = i % n ∧ 0 ≤ i.tmod n + n := by
  have h1 : -n < i.tmod n := by
    have := Int.lt_tmod_of_pos i hn
    omega
  have h2 : (i.tmod n + n) % n = i % n := by rw [Int.add_emod_right, Int.tmod_def, Int.sub_emod, Int.mul_emod_right]; simp
  exact ⟨by rw [← h2, Int.emod_eq_of_lt (by omega) (by omega)], by omega⟩
set_option maxHeartbeats 400000 in
theorem bring_spec (i n : Int) (w : World) (h0 : 0 < n) (hn : n ≤ 9223372036854775807):
    Calls Tryz.prog 17 #[.int .i64 i, .int .i64 n] w fun e w' => e = .returned (.int .i64 (i % n)) ∧ w = w' := by
  by_cases h : 0 ≤ i.tmod n
  · have H := Lib.hid (tmod_pos h0 h)
    go_enter Tryz.func17, Tryz.ntmps17
    go_wp2
    go_ret
    exact ⟨ret_int H.out, rfl⟩
  · have h' : i.tmod n < 0 := by omega
    have H := Lib.hid (tmod_neg h0 h').1
    have hlo := (tmod_neg h0 h').2
    clear h
    go_enter Tryz.func17, Tryz.ntmps17
    go_wp2
    go_ret
    exact ⟨ret_int H.out, rfl⟩
/-- One of the four widths. -/
def wd (n : Int) : Nat := 2 ^ (n % 4).toNat
theorem wd_isW (n : Int) : isW (wd n : Int) = true := by
  have : n % 4 = 0 ∨ n % 4 = 1 ∨ n % 4 = 2 ∨ n % 4 = 3 := by omega
  unfold wd
  rcases this with h | h | h | h <;> rw [h] <;> decide
end Go.Proofs.YtejalfjeihlpeaaGreat

namespace Go.Proofs.YtejalfjeihlpeaaGreat
open Go.RowKit Go.Acc

theorem isb_lit (w : World) (vs : Array Value) (l : List UInt8) (n : Nat) (hn : l.length = n) (h : vs.toList = l.flatMap bc) : IsB (w.alloc (.cells vs 5)) (some ⟨w.heap.size, 0, none⟩) n l :=
  ⟨hn, fun j u hj => ⟨_, _, rfl, by rw [(Blk.new w 5 vs).cell, Nat.zero_add, ← Array.getElem?_toList, h]; exact hj⟩⟩

theorem isb_lit2 (w : World) (o : Obj) (vs : Array Value) (l : List UInt8) (n : Nat) (hn : l.length = n) (h : vs.toList = l.flatMap bc) : IsB ((w.alloc o).alloc (.cells vs 5)) (some ⟨w.heap.size + 1, 0, none⟩) n l := by
  have h := isb_lit (w.alloc o) vs l n hn h
  have e : (w.alloc o).heap.size = w.heap.size + 1 := by simp
  rw [e] at h
  exact h
theorem isb_lit3 (w : World) (o o2 : Obj) (vs : Array Value) (l : List UInt8) (n : Nat) (hn : l.length = n) (h : vs.toList = l.flatMap bc) : IsB (((w.alloc o).alloc o2).alloc (.cells vs 5)) (some ⟨w.heap.size + 1 + 1, 0, none⟩) n l := by
  have h := isb_lit2 (w.alloc o) o2 vs l n hn h
  have e : (w.alloc o).heap.size = w.heap.size + 1 := by simp
  rw [e] at h
  exact h
theorem loadi_is (A : Option Addr) (n c : Nat) (a x : Int) (l : List UInt8) (w : World) (v er : Int) (hl : IsB w A n l) (hc : n ≤ c) (hn : n ≤ 9223372036854775807) (h1 : loadI l a x = v) (h2 : loadE n a x = er) :
    Calls Tryz.prog 105 #[.slice A n c, .int .i64 a, .int .i64 x] w fun e w' => e = .returned (.tuple #[.int .i64 v, .int .i64 er]) ∧ Below w.heap.size w w' := by
  subst h1 h2
  exact loadi_spec A n c a x l w hl hc hn
theorem put_is (A : Option Addr) (n c : Nat) (u x : Int) (U : Nat) (l m : List UInt8) (er : Int) (w : World) (h : IsB w A n l) (hc : n ≤ c) (hn : n ≤ 1099511627776) (hU : u = U) (hu : (U : Int) < 18446744073709551616)
    (h1 : putB l x U (fitsU x.toNat U) = m) (h2 : putE x (fitsU x.toNat U) = er) : Calls Tryz.prog 20 #[.slice A n c, .int .i64 x, .int .u64 u] w (PutW w m er) := by
  subst h1 h2 hU
  exact put_spec A n c U x l w h hc hn hu
theorem puti_is (A : Option Addr) (n c : Nat) (v x : Int) (l m : List UInt8) (er : Int) (w : World) (h : IsB w A n l) (hc : n ≤ c) (hn : n ≤ 1099511627776) (hm : -9223372036854775808 ≤ v ∧ v ≤ 9223372036854775807)
    (h1 : putB l x (v % 18446744073709551616).toNat (fitsI x.toNat v) = m) (h2 : putE x (fitsI x.toNat v) = er) : Calls Tryz.prog 22 #[.slice A n c, .int .i64 x, .int .i64 v] w (PutW w m er) := by
  subst h1 h2
  exact puti_spec A n c x v l w h hc hn hm
end Go.Proofs.YtejalfjeihlpeaaGreat
