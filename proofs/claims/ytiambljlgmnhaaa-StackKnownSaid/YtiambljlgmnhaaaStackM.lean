/-
  StackWhole and StackBack: the walks.
-/
import Derived.Test.YtiambljlgmnhaaaStackL
import Derived.Test.YtiambljlgmnhaaaStackD
namespace Go.Proofs.Ytiambljlgmnhaaa
open Go.RowKit Go.Acc

/-- The stack, whose first elements are m; m itself, apart from it; what was there before. -/
def Whl (w : World) (b : Nat) (iA : Option Addr) (i : Nat) (m L : List V3) (W : World) : Prop :=
  ∃ g, Stk W w.heap.size b g L ∧ L.take i = m ∧ i ≤ L.length ∧ IsV W iA i m ∧ (0 < i → ∀ ad, iA = some ad → ad.block ≠ b ∧ (∀ k, g = some k → ad.block ≠ k)) ∧ Below w.heap.size w W
theorem Whl.pure {w W W' : World} {b i : Nat} {iA : Option Addr} {m L : List V3} (h : Whl w b iA i m L W) (hb : Below W.heap.size W W') : Whl w b iA i m L W' := by
  obtain ⟨g, h1, h2, h3, h4, h5, h6⟩ := h
  exact ⟨g, h1.pure hb, h2, h3, h4.pure hb, h5, pure_below h6 hb⟩
theorem Whl.below {w W : World} {b i : Nat} {iA : Option Addr} {m L : List V3} (h : Whl w b iA i m L W) : Below w.heap.size w W := by
  obtain ⟨g, h1, h2, h3, h4, h5, h6⟩ := h
  exact h6
theorem Whl.size {w W : World} {b i : Nat} {iA : Option Addr} {m L : List V3} (h : Whl w b iA i m L W) : w.heap.size ≤ W.heap.size := by
  obtain ⟨g, h1, h2, h3, h4, h5, h6⟩ := h
  exact h6.size
/-- What a call on the stack leaves, from its own contract. -/
theorem Whl.step {w W W' : World} {b i : Nat} {iA : Option Addr} {m L L' : List V3} {g g' : Option Nat} (h1 : Stk W w.heap.size b g L) (h4 : IsV W iA i m) (h5 : 0 < i → ∀ ad, iA = some ad → ad.block ≠ b ∧ (∀ k, g = some k → ad.block ≠ k)) (h6 : Below w.heap.size w W)
    (hS : Stk W' w.heap.size b g' L') (hf : Fr (fun k => k = b ∨ some k = g) W W') (hat : g' = g ∨ g' = some W.heap.size) (h2 : L'.take i = m) (h7 : i ≤ L'.length) : Whl w b iA i m L' W' := by
  have hge := h1.ge
  refine ⟨g', hS, h2, h7, ?_, fun hi ad h => ⟨(h5 hi ad h).1, fun k hk => ?_⟩, below_fr h6 hf (fun k e => ?_)⟩
  · rcases Nat.eq_zero_or_pos i with h0 | h0
    · subst h0
      have hm : m = [] := by rw [← h2]; simp
      subst hm
      exact Is.nil _ _
    · exact h4.fr hf (fun ad h => not_two (h5 h0 ad h).1 (h5 h0 ad h).2)
  · rcases hat with e | e
    · rw [e] at hk; exact (h5 hi ad h).2 k hk
    · rw [e] at hk
      injection hk with hk
      obtain ⟨b', off, e', hb'⟩ := h4.some_ vc_len (by omega) hi
      rw [h] at e'; injection e' with e'; subst e'
      show b' ≠ k
      omega
  · rcases e with e | e
    · omega
    · exact (hge.2.2 k e.symm).1
theorem whl_push {w W : World} {b i : Nat} {iA : Option Addr} {m L l : List V3} {A2 : Option Addr} {n2 c2 : Nat} (h : Whl w b iA i m L W) (hl : IsV W A2 n2 l) (hb : L.length + l.length ≤ 65536) :
    Calls Try.prog 17 #[.pointer (some ⟨b, 0, none⟩), .slice A2 n2 c2] W fun e W' => e = .returned (.int .i64 0) ∧ Whl w b iA i m (L ++ l) W' := by
  obtain ⟨g, h1, h2, h3, h4, h5, h6⟩ := h
  refine (push_spec _ b g L l A2 n2 c2 W h1 hl hb h6.size).mono ?_
  rintro e W' ⟨rfl, g', hS, hat, hf⟩
  exact ⟨rfl, Whl.step h1 h4 h5 h6 hS hf hat (by rw [List.take_append_of_le_length h3]; exact h2) (by rw [List.length_append]; omega)⟩
theorem Whl.drew {w W : World} {b i : Nat} {iA : Option Addr} {m L : List V3} (h : Whl w b iA i m L W) : Whl w b iA i m L W.drew := by
  obtain ⟨g, h1, h2, h3, h4, h5, h6⟩ := h
  exact ⟨g, h1, h2, h3, h4, h5, h6.drew⟩
theorem whl_pop {w W : World} {b i : Nat} {iA : Option Addr} {m L : List V3} (s : Int) (h : Whl w b iA i m L W) (h0 : 0 ≤ s) (hq : s + i ≤ L.length) (hL : L.length ≤ 65536) :
    Calls Try.prog 12 #[.pointer (some ⟨b, 0, none⟩), .int .i64 s] W fun e W' => (∃ v, e = .returned v) ∧ Whl w b iA i m (L.take (L.length - s.toNat)) W' := by
  obtain ⟨q, rfl⟩ := Int.eq_ofNat_of_zero_le h0
  rw [Int.toNat_natCast]
  obtain ⟨g, h1, h2, h3, h4, h5, h6⟩ := h
  refine (pop_spec _ b g L q W h1 (by omega) (by omega)).mono ?_
  rw [(pop_yes L q (by omega)).2.1]
  rintro e W' ⟨A, n, c, rfl, _, hS, hf⟩
  exact ⟨⟨_, rfl⟩, Whl.step h1 h4 h5 h6 hS (hf.mono fun _ _ e => .inl e) (.inl rfl) (by rw [List.take_take, Nat.min_eq_left (by omega)]; exact h2) (by rw [List.length_take]; omega)⟩
theorem whl_from {w W : World} {b i : Nat} {iA : Option Addr} {m L : List V3} (s : Int) (h : Whl w b iA i m L W) :
    Calls Try.prog 14 #[.pointer (some ⟨b, 0, none⟩), .int .i64 s] W fun e W' => ∃ A n c, e = .returned (.tuple #[.slice A n c, .int .i64 (fromE L s)]) ∧ OwnV W' W.heap.size A n c (fromL L s) ∧ Whl w b iA i m L W' ∧ Below W.heap.size W W' := by
  have h' := h
  obtain ⟨g, h1, h2, h3, h4, h5, h6⟩ := h
  refine (from_spec _ b g L s W h1).mono ?_
  rintro e W' ⟨A, n, c, rfl, ho, hb⟩
  exact ⟨A, n, c, rfl, ho, h'.pure hb, hb⟩
theorem whl_len {w W : World} {b i : Nat} {iA : Option Addr} {m L : List V3} (h : Whl w b iA i m L W) :
    Calls Try.prog 21 #[.pointer (some ⟨b, 0, none⟩)] W fun e W' => e = .returned (.int .i64 L.length) ∧ W = W' := by
  obtain ⟨g, h1, _⟩ := h
  exact len_spec _ b g L W h1

theorem from_zero (l : List V3) : fromL l 0 = l ∧ fromE l 0 = 0 := by
  obtain ⟨h1, _, h2⟩ := from_yes l 0 (by omega)
  exact ⟨by simpa using h1, by simpa using h2⟩

set_option maxRecDepth 100000 in
set_option maxHeartbeats 4000000 in
theorem whole_spec (A A' : Option Addr) (n c n' c' : Nat) (l : List V3) (w : World) (hL : IsV w A n l) (hc : n ≤ c) (hn : n ≤ 9223372036854775807) (hd : ∀ k, k < n' → DoAt w A' k) (hn' : n' ≤ 9223372036854775807) :
    Calls Try.prog 7 #[.slice A n c, .slice A' n' c'] w fun e w' => e = .returned (.bool true) ∧ Below w.heap.size w w' := by
  have h30 : (l.take 30).length ≤ 30 := by rw [List.length_take]; omega
  generalize hm : l.take 30 = m at h30
  have HM := Lib.hid hm
  have HD := Lib.hid hd
  clear hm hd
  go_enter Try.func7, Try.ntmps7
  go_wp2_with fail
  refine (new_spec _).mono ?_
  rintro e w1 ⟨b, rfl, hS, hb1⟩
  go_wp2_with fail
  refine (few_spec A n c l _ (hL.pure hb1) hc hn).mono ?_
  rw [HM.out]
  rintro e w2 ⟨iA, i, ic, rfl, hi, hb2⟩
  have hl := hi.1
  have hil : i ≤ 30 := by omega
  have hic := hi.cap.1
  go_wp2_with fail
  refine (push_spec _ b none [] m iA i ic _ (hS.pure hb2) hi.is (by simp; omega) (Nat.le_trans hb1.size hb2.size)).mono ?_
  rw [List.nil_append]
  rintro e w3 ⟨rfl, g, hS3, hat3, hf3⟩
  have hW : Whl w b iA i m m w3 := by
    have hbb := hS.ge
    refine Whl.step (hS.pure hb2) hi.is (fun hi0 ad h => ⟨by have := (hi.addr ad h).2.1; omega, fun k h => by cases h⟩) (pure_below (pure_below (Below.refl _ _) hb1) hb2) hS3 hf3 hat3 (List.take_of_length_le (by omega)) (by omega)
  have HW := Lib.hid hW
  have HL := Lib.hid hl
  clear hL hS hb1 hb2 hi hS3 hf3 hat3 hW hl
  go_wp2_with fail
  go_loopw [7] (fun t wr => ∃ (k : Nat) (L : List V3), k ≤ n' ∧ k ≤ 60 ∧ t = .int .i64 k ∧ Whl w b iA i m L wr ∧ L.length ≤ 30 + 30 * k) (fun t _ => n' - (intOf t).toNat)
  case atStart => exact ⟨0, m, by omega, by omega, rfl, HW.out, by omega⟩
  case round =>
    obtain ⟨k, L, hk, hk6, rfl, hW, hLL⟩ := hrel
    by_cases hlt : k < n' ∧ k < 60
    · obtain ⟨hlt, h60⟩ := hlt
      have hd6 : decide ((k : Int) < 60) = true := by simp; omega
      obtain ⟨bb, off, kd, nn, LA, ln, lc, M, rfl, d0, d1, d2, hM, hcap, hlen, hn1, hn2⟩ := HD.out k hlt
      have hBw : Below w.heap.size w wr := by obtain ⟨_, _, _, _, _, _, hb⟩ := hW; exact hb
      have D1 := Lib.hid d1
      replace d0 := cell_pure hBw d0
      replace d1 := cell_pure hBw d1
      replace d2 := cell_pure hBw d2
      have HW := Lib.hid hW
      have HMR := Lib.hid hM
      clear hW hM hBw
      by_cases k2 : kd % 4 = 2
      · have K2 : (kd % 4 == 2) = true := by simpa using k2
        clear k2
        go_wp2_with (go_at_call 11; refine (bring_spec kd 4 _ (by omega) (by omega)).mono ?_; rintro e w' ⟨rfl, rfl⟩)
        have e1 : IntKind.i64.wrap ((L.length : Int) - i) = (L.length : Int) - i := IntWalk.i64_in _ (by omega)
        have hiL : i ≤ L.length := by obtain ⟨_, _, _, h, _⟩ := HW.out; exact h
        have e2 : IntKind.i64.wrap ((L.length : Int) - i + 1) = (L.length : Int) - i + 1 := IntWalk.i64_in _ (by omega)
        have e3 : (if (1 : Int) < (L.length : Int) - i + 1 then (L.length : Int) - i + 1 else 1) = (L.length : Int) - i + 1 := by split <;> omega
        have hb1 := Int.emod_nonneg nn (b := (L.length : Int) - i + 1) (by omega)
        have hb2 := Int.emod_lt_of_pos nn (b := (L.length : Int) - i + 1) (by omega)
        have HE1 := Lib.hid hb1
        have HE2 := Lib.hid hb2
        clear hb1 hb2
        go_region_held3 (fun w' => w'.cell? ⟨bb, off + k * 3 + 1, none⟩ = some (.int .i64 nn)) (first | assumption)
          (first
          | (go_at_call 21; refine (whl_len HW.out.drew).mono ?_; rintro e w' ⟨rfl, rfl⟩)
          | (go_at_call 11; refine (bring_spec nn _ _ (by omega) (by omega)).mono ?_; rintro e w' ⟨rfl, rfl⟩)
          | (go_at_call 12; refine (whl_pop _ HW.out.drew HE1.out (by have := HE2.out; omega) (by omega)).mono ?_; rintro e w4 ⟨⟨v, rfl⟩, hW4⟩; have HW4 := Lib.hid hW4; have x4 : w4.cell? ⟨bb, off + k * 3 + 1, none⟩ = some (.int .i64 nn) := cell_pure HW4.out.below D1.out; clear hW4))
        clear e1 e2 e3
        have hLn : (L.take (L.length - (nn % ((L.length : Int) - i + 1)).toNat)).length ≤ 30 + 30 * (k + 1) := by rw [List.length_take]; omega
        generalize hLe : L.take (L.length - (nn % ((L.length : Int) - i + 1)).toNat) = L' at hLn
        have hW4 := HW4.out
        rw [hLe] at hW4
        clear hLe HW4 HE1 HE2 d0 d1 d2 x4
        go_wp2_with fail
        refine (whl_from 0 hW4).mono ?_
        rw [(from_zero L').1, (from_zero L').2]
        rintro e w8 ⟨aA, an, ac, rfl, ha, hW8, _⟩
        have han := ha.1
        have haL : i ≤ an := by rw [← han]; obtain ⟨_, _, _, h, _⟩ := hW8; exact h
        have hac := ha.cap.1
        have hae : (L').take i = m := by obtain ⟨_, _, h, _⟩ := hW8; exact h
        have hIm : IsV w8 iA i m := by obtain ⟨_, _, _, _, h, _⟩ := hW8; exact h
        have HA := Lib.hid (hae ▸ ha.is.take vc_len haL)
        have HIM := Lib.hid hIm
        have HW8 := Lib.hid hW8
        clear ha hW8 han hae hIm
        go_wp2_with fail
        refine (are_yes HA.out HIM.out (by rw [HL.out]; omega)).mono ?_
        rintro e w9 ⟨rfl, hb9⟩
        have HW9 := Lib.hid (HW8.out.pure hb9)
        clear hb9
        go_wp2
        go_roundw
        case rel => exact ⟨k + 1, L', by omega, by omega, by go_num, HW9.out, hLn⟩
        case measure => simp [intOf]; omega
      · have K2 : (kd % 4 == 2) = false := by simpa using k2
        clear k2
        have hLn0 : L.length ≤ 30 + 30 * (k + 1) := by omega
        by_cases k3 : kd % 4 = 3
        · have K3 : (kd % 4 == 3) = true := by simpa using k3
          clear k3
          go_wp2_with (go_at_call 11; refine (bring_spec kd 4 _ (by omega) (by omega)).mono ?_; rintro e w' ⟨rfl, rfl⟩)
          refine (whl_from nn HW.out).mono ?_
          rintro e w4 ⟨zA, zn, zc, rfl, _, hW4, _⟩
          have hLn := hLn0
          clear d0 d1 d2
          go_wp2_with fail
          refine (whl_from 0 hW4).mono ?_
          rw [(from_zero L).1, (from_zero L).2]
          rintro e w8 ⟨aA, an, ac, rfl, ha, hW8, _⟩
          have han := ha.1
          have haL : i ≤ an := by rw [← han]; obtain ⟨_, _, _, h, _⟩ := hW8; exact h
          have hac := ha.cap.1
          have hae : (L).take i = m := by obtain ⟨_, _, h, _⟩ := hW8; exact h
          have hIm : IsV w8 iA i m := by obtain ⟨_, _, _, _, h, _⟩ := hW8; exact h
          have HA := Lib.hid (hae ▸ ha.is.take vc_len haL)
          have HIM := Lib.hid hIm
          have HW8 := Lib.hid hW8
          clear ha hW8 han hae hIm
          go_wp2_with fail
          refine (are_yes HA.out HIM.out (by rw [HL.out]; omega)).mono ?_
          rintro e w9 ⟨rfl, hb9⟩
          have HW9 := Lib.hid (HW8.out.pure hb9)
          clear hb9
          go_wp2
          go_roundw
          case rel => exact ⟨k + 1, L, by omega, by omega, by go_num, HW9.out, hLn⟩
          case measure => simp [intOf]; omega
        · have K3 : (kd % 4 == 3) = false := by simpa using k3
          clear k3
          have h30' : (M.take 30).length ≤ 30 := by rw [List.length_take]; omega
          go_wp2_with (go_at_call 11; refine (bring_spec kd 4 _ (by omega) (by omega)).mono ?_; rintro e w' ⟨rfl, rfl⟩)
          refine (few_spec LA ln lc M _ (HMR.out.pure HW.out.below) hcap hlen).mono ?_
          rintro e w4 ⟨zA, zn, zc, rfl, hz, hb4⟩
          have HZ := Lib.hid hz.is
          have HW4' := Lib.hid (HW.out.pure hb4)
          clear d0 d1 d2 hz hb4
          go_wp2_with fail
          refine (whl_push HW4'.out HZ.out (by omega)).mono ?_
          rintro e w5 ⟨rfl, hW4⟩
          have hLn : (L ++ M.take 30).length ≤ 30 + 30 * (k + 1) := by rw [List.length_append]; omega
          go_wp2_with fail
          refine (whl_from 0 hW4).mono ?_
          rw [(from_zero (L ++ M.take 30)).1, (from_zero (L ++ M.take 30)).2]
          rintro e w8 ⟨aA, an, ac, rfl, ha, hW8, _⟩
          have han := ha.1
          have haL : i ≤ an := by rw [← han]; obtain ⟨_, _, _, h, _⟩ := hW8; exact h
          have hac := ha.cap.1
          have hae : ((L ++ M.take 30)).take i = m := by obtain ⟨_, _, h, _⟩ := hW8; exact h
          have hIm : IsV w8 iA i m := by obtain ⟨_, _, _, _, h, _⟩ := hW8; exact h
          have HA := Lib.hid (hae ▸ ha.is.take vc_len haL)
          have HIM := Lib.hid hIm
          have HW8 := Lib.hid hW8
          clear ha hW8 han hae hIm
          go_wp2_with fail
          refine (are_yes HA.out HIM.out (by rw [HL.out]; omega)).mono ?_
          rintro e w9 ⟨rfl, hb9⟩
          have HW9 := Lib.hid (HW8.out.pure hb9)
          clear hb9
          go_wp2
          go_roundw
          case rel => exact ⟨k + 1, (L ++ M.take 30), by omega, by omega, by go_num, HW9.out, hLn⟩
          case measure => simp [intOf]; omega
    · have HT := Lib.hid hW.below
      clear hW
      by_cases h60 : k < n'
      · have hd6 : decide ((k : Int) < 60) = false := by simp; omega
        go_wp2_with fail
        refine (works_spec _).mono ?_
        rintro e w3 ⟨rfl, hb3⟩
        go_wp2
        go_ret
        exact ⟨rfl, pure_below HT.out hb3⟩
      · go_wp2_with fail
        refine (works_spec _).mono ?_
        rintro e w3 ⟨rfl, hb3⟩
        go_wp2
        go_ret
        exact ⟨rfl, pure_below HT.out hb3⟩

def lenV : Value → Nat | .slice _ n _ => n | _ => 0
/-- One of the lists that are pushed. -/
def LiAt (w : World) (A : Option Addr) (k : Nat) : Prop :=
  ∃ b off LA ln lc L, A = some ⟨b, off, none⟩ ∧ w.cell? ⟨b, off + k, none⟩ = some (.slice LA ln lc) ∧ IsV w LA ln L ∧ ln ≤ lc ∧ ln ≤ 9223372036854775807
/-- The stack and the list beside it, the same, apart from each other. -/
def Bck (w : World) (b : Nat) (all : Option Addr) (n c : Nat) (L : List V3) (W : World) : Prop :=
  ∃ g, Stk W w.heap.size b g L ∧ OwnV W w.heap.size all n c L ∧ (∀ ad, all = some ad → ad.block ≠ b ∧ g ≠ some ad.block) ∧ Below w.heap.size w W
theorem Bck.pure {w W W' : World} {b n c : Nat} {iA : Option Addr} {L : List V3} (h : Bck w b iA n c L W) (hb : Below W.heap.size W W') : Bck w b iA n c L W' := by
  obtain ⟨g, h1, h4, h5, h6⟩ := h
  exact ⟨g, h1.pure hb, h4.pure hb, h5, pure_below h6 hb⟩
theorem Bck.below {w W : World} {b n c : Nat} {iA : Option Addr} {L : List V3} (h : Bck w b iA n c L W) : Below w.heap.size w W := by
  obtain ⟨g, h1, h4, h5, h6⟩ := h
  exact h6
theorem Bck.len {w W : World} {b n c : Nat} {iA : Option Addr} {L : List V3} (h : Bck w b iA n c L W) : L.length = n ∧ n ≤ c ∧ n ≤ 65536 := by
  obtain ⟨g, ⟨_, _, _, _, h, _, h3, _⟩, h4, h5, h6⟩ := h
  exact ⟨h4.1, h4.cap.1, by rw [← h4.1, h.1]; exact h3⟩
/-- Behind a push alone. -/
def BckP (w : World) (b : Nat) (all : Option Addr) (n c : Nat) (L l : List V3) (W : World) : Prop :=
  ∃ g, Stk W w.heap.size b g (L ++ l) ∧ OwnV W w.heap.size all n c L ∧ (∀ ad, all = some ad → ad.block ≠ b ∧ g ≠ some ad.block) ∧ Below w.heap.size w W
theorem bck_push {w W : World} {b n c : Nat} {iA : Option Addr} {L l : List V3} {A2 : Option Addr} {n2 c2 : Nat} (h : Bck w b iA n c L W) (hl : IsV W A2 n2 l) (hb : L.length + l.length ≤ 65536) :
    Calls Try.prog 17 #[.pointer (some ⟨b, 0, none⟩), .slice A2 n2 c2] W fun e W' => e = .returned (.int .i64 0) ∧ BckP w b iA n c L l W' := by
  obtain ⟨g, h1, h4, h5, h6⟩ := h
  refine (push_spec _ b g L l A2 n2 c2 W h1 hl hb h6.size).mono ?_
  rintro e W' ⟨rfl, g', hS, hat, hf⟩
  refine ⟨rfl, g', hS, h4.fr hf (fun ad h => not_two (h5 ad h).1 (fun k hk e => (h5 ad h).2 (e ▸ hk))), fun ad h => ⟨(h5 ad h).1, fun e => ?_⟩, below_fr h6 hf (fun k e => ?_)⟩
  · rcases hat with e' | e'
    · rw [e'] at e; exact (h5 ad h).2 e
    · rw [e'] at e; injection e with e; have := (h4.addr ad h).2.2; omega
  · rcases e with e | e
    · have := h1.ge.1; omega
    · exact (h1.ge.2.2 k e.symm).1
theorem bck_pop {w W : World} {b n c : Nat} {iA : Option Addr} {L : List V3} (k : Nat) (h : Bck w b iA n c L W) (hk : k ≤ n) :
    Calls Try.prog 12 #[.pointer (some ⟨b, 0, none⟩), .int .i64 k] W fun e W' => ∃ A m d, e = .returned (.tuple #[.slice A m d, .int .i64 0]) ∧ IsV W' A m (L.drop (n - k)) ∧ IsV W' iA n L ∧ Bck w b iA (n - k) c (L.take (n - k)) W' := by
  have hlen := h.len
  obtain ⟨g, h1, h4, h5, h6⟩ := h
  obtain ⟨e1, e2, e3⟩ := pop_yes L k (by omega)
  refine (pop_spec _ b g L k W h1 (by omega) (by omega)).mono ?_
  rw [e1, e2, e3, hlen.1]
  rintro e W' ⟨A, m, d, rfl, ho, hS, hf⟩
  have h4' := h4.fr hf (fun ad h => (h5 ad h).1)
  exact ⟨A, m, d, rfl, ho.is, h4'.is, g, hS, h4'.take vc_len (by omega), h5, below_fr h6 hf (fun k e => by have := h1.ge.1; omega)⟩
theorem bck_len {w W : World} {b n c : Nat} {iA : Option Addr} {L : List V3} (h : Bck w b iA n c L W) :
    Calls Try.prog 21 #[.pointer (some ⟨b, 0, none⟩)] W fun e W' => e = .returned (.int .i64 n) ∧ W = W' := by
  have hl := h.len.1
  obtain ⟨g, h1, _⟩ := h
  rw [← hl]
  exact len_spec _ b g L W h1

set_option maxRecDepth 100000 in
set_option maxHeartbeats 4000000 in
theorem back_spec (A : Option Addr) (n c : Nat) (many : Int) (w : World) (hd : ∀ k, k < n → LiAt w A k) (hn : n ≤ 9223372036854775807) :
    Calls Try.prog 4 #[.slice A n c, .int .i64 many] w fun e w' => e = .returned (.bool true) ∧ Below w.heap.size w w' := by
  have HD := Lib.hid hd
  clear hd
  go_enter Try.func4, Try.ntmps4
  go_wp2_with fail
  refine (works_spec _).mono ?_
  rintro e w0 ⟨rfl, hb0⟩
  go_wp2_with fail
  refine (new_spec _).mono ?_
  rintro e w1 ⟨b, rfl, hS, hb1⟩
  have hB : Bck w b none 0 0 [] w1 := ⟨none, hS.rebase hb0.size, Own.nil _ _, fun ad h => (by cases h), pure_below hb0 hb1⟩
  have HB := Lib.hid hB
  clear hS hb0 hb1 hB
  go_wp2_with fail
  go_loopw [6, 7] (fun a t wr => ∃ (k : Nat) (L : List V3) (aA : Option Addr) (an ac : Nat), k ≤ n ∧ k ≤ 20 ∧ t = .int .i64 k ∧ a = .slice aA an ac ∧ Bck w b aA an ac L wr ∧ L.length ≤ 30 * k) (fun _ t _ => n - (intOf t).toNat)
  case atStart => exact ⟨0, [], none, 0, 0, by omega, by omega, rfl, rfl, HB.out, by simp⟩
  case round =>
    obtain ⟨k, L, aA, an, ac, hk, hk6, rfl, rfl, hW, hLL⟩ := hrel
    by_cases hlt : k < n ∧ k < 20
    · obtain ⟨hlt, h60⟩ := hlt
      have hd6 : decide ((k : Int) < 20) = true := by simp; omega
      obtain ⟨bb, off, LA, ln, lc, M, rfl, d0, hM, hcap, hlen⟩ := HD.out k hlt
      have D0 := Lib.hid d0
      replace d0 := cell_pure hW.below d0
      have HW := Lib.hid hW
      have HMR := Lib.hid hM
      have h30' : (M.take 30).length ≤ 30 := by rw [List.length_take]; omega
      clear hW hM
      go_wp2_with fail
      refine (few_spec LA ln lc M _ (HMR.out.pure HW.out.below) hcap hlen).mono ?_
      rintro e w4 ⟨zA, zn, zc, rfl, hz, hb4⟩
      have HZ := Lib.hid hz.is
      have HW4 := Lib.hid (HW.out.pure hb4)
      clear d0 hz hb4
      go_wp2_with fail
      refine (bck_push HW4.out HZ.out (by omega)).mono ?_
      rintro e w5 ⟨rfl, g, hS5, hO5, hg5, hb5⟩
      have d5 := cell_pure hb5 D0.out
      have HS5 := Lib.hid hS5
      have HO5 := Lib.hid hO5
      have HG5 := Lib.hid hg5
      have HB5 := Lib.hid hb5
      clear hS5 hO5 hg5 hb5
      go_wp2_with fail
      refine (few_spec LA ln lc M _ (HMR.out.pure HB5.out) hcap hlen).mono ?_
      rintro e w6 ⟨yA, yn, yc, rfl, hy, hb6⟩
      have HY := Lib.hid hy.is
      have HS6 := Lib.hid (HS5.out.pure hb6)
      have HO6 := Lib.hid (HO5.out.pure hb6)
      have HB6 := Lib.hid (pure_below HB5.out hb6)
      have hyn := hy.1
      have han := HO5.out.1
      have hyn' : yn ≤ 30 := by omega
      have han' : an ≤ 600 := by omega
      clear d5 hy hb6 hyn han
      go_wp2_with (at_builtin; refine wpl_app _ rfl (.tmp 34) (.tmp 39) _ rfl 49 _ 3 24 Try.underlying27 info_v rfl (by omega) vc_len vc_one _ _ _ _ _ rfl HO6.out _ _ _ _ rfl HY.out (by omega) HB6.out.size ?_; intro A1 c1 w7 hown1 hfr1 hat1)
      have hE : Bck w b A1 (an + yn) c1 (L ++ M.take 30) w7 := by
        refine ⟨g, HS6.out.fr hfr1 ?_ ?_, hown1, fun ad h => ?_, below_fr HB6.out hfr1 ?_⟩
        · rintro ⟨ad, h, e⟩; exact (HG5.out ad h).1 e.symm
        · rintro k' hk' ⟨ad, h, e⟩; exact (HG5.out ad h).2 (by rw [hk', e])
        · have hge := HS6.out.ge
          rw [h] at hat1
          rcases hat1 with e | e
          · cases hA : aA with
            | none => rw [hA] at e; cases e
            | some ad' =>
              rw [hA] at e
              have e : ad.block = ad'.block := by simpa using e
              rw [e]
              exact HG5.out ad' hA
          · have e : ad.block = w6.heap.size := by simpa using e
            refine ⟨by omega, fun e' => ?_⟩
            have := (hge.2.2 _ e').2.1
            omega
        · rintro k' ⟨ad, h, rfl⟩
          exact (HO6.out.addr ad h).2.1
      have HE := Lib.hid hE
      clear hE hown1 hfr1 hat1
      go_wp2
      go_roundw
      case rel => exact ⟨k + 1, L ++ M.take 30, A1, an + yn, c1, by omega, by omega, by go_num, rfl, HE.out, by rw [List.length_append]; omega⟩
      case measure => simp [intOf]; omega
    · have HW := Lib.hid hW
      have hlen := hW.len
      have hd0 : ¬ (k < n) ∨ (k < n ∧ decide ((k : Int) < 20) = false) := by
        by_cases h : k < n
        · exact .inr ⟨h, by simp; omega⟩
        · exact .inl h
      clear hW
      obtain ⟨q, hq, hq40⟩ := bring_nat many 39
      have HQ := Lib.hid (show many % 40 = q from hq)
      have hqe : 1 ≤ q + 1 := by omega
      clear hq
      rcases hd0 with hd0 | ⟨hd0, hd6⟩
      all_goals
        go_wp2_with fail
        refine (bring_spec many 40 _ (by omega) (by omega)).mono ?_
        rw [HQ.out]
        rintro e w' ⟨rfl, rfl⟩
        go_wp2_with fail
        go_loopw [6] (fun a wr => ∃ (L : List V3) (aA : Option Addr) (an : Nat), a = .slice aA an ac ∧ an ≤ 65536 ∧ Bck w b aA an ac L wr) (fun a _ => lenV a)
        case atStart => exact ⟨L, aA, an, rfl, hlen.2.2, HW.out⟩
        case round =>
          obtain ⟨L, aA, an, rfl, hle, hW⟩ := hrel
          rcases Nat.eq_zero_or_pos an with h0 | h0
          · subst h0
            have HW := Lib.hid hW
            clear hW
            go_wp2_with fail
            refine (bck_len HW.out).mono ?_
            rintro e w' ⟨rfl, rfl⟩
            go_wp2
            go_ret
            exact ⟨rfl, HW.out.below⟩
          · obtain ⟨k1, hk1, hk2, hk3⟩ : ∃ k1 : Nat, (if (an : Int) < 1 + q then (an : Int) else 1 + q) = k1 ∧ 1 ≤ k1 ∧ k1 ≤ an := by
              by_cases h : (an : Int) < 1 + q
              · exact ⟨an, if_pos h, h0, Nat.le_refl _⟩
              · exact ⟨1 + q, by rw [if_neg h]; omega, by omega, by omega⟩
            have hac := hW.len.2.1
            have hlL := hW.len.1
            have hpos : (0 : Int) < an := by omega
            have HLL := Lib.hid hlL
            have HW := Lib.hid hW
            clear hW hlL
            go_wp2_with fail
            refine (bck_pop k1 HW.out hk3).mono ?_
            rintro e w5 ⟨xA, xn, xc, rfl, hx, hi, hW5⟩
            have HX := Lib.hid hx
            have HI := Lib.hid hi
            have HW5 := Lib.hid hW5
            have hdl : (L.drop (an - k1)).length ≤ 100 := by rw [List.length_drop, HLL.out]; omega
            clear hx hi hW5 hk1
            go_wp2_with fail
            all_goals
              refine (are_yes HX.out (by first | exact HI.out.cut1 vc_len | exact HI.out.cut0 (by assumption) hac) hdl).mono ?_
              rintro e w6 ⟨rfl, hb6⟩
              have HW6 := Lib.hid (HW5.out.pure hb6)
              clear hb6
              go_wp2_with fail
              refine (bck_len HW6.out).mono ?_
              rintro e w' ⟨rfl, rfl⟩
              have ek : ((an - k1 : Nat) : Int) = (an : Int) - k1 := by omega
              rw [ek]
              go_wp2
              go_roundw
              case rel => exact ⟨_, _, an - k1, rfl, by omega, HW6.out⟩
              case measure => simp [lenV]; omega

end Go.Proofs.Ytiambljlgmnhaaa
