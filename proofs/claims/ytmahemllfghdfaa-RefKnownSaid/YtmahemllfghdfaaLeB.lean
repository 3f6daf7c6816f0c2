/-
  The reference's reader, the signed readers.
-/
import Derived.Test.YtmahemllfghdfaaLeA
namespace Go.Proofs.Ytmahemllfghdfaa
open Go.RowKit Go.Acc

set_option maxHeartbeats 400000 in
theorem look_spec (A : Option Addr) (n c : Nat) (a x : Int) (w : World) (hn : n ≤ 9223372036854775807) :
    Calls Try.prog 44 #[.slice A n c, .int .i64 a, .int .i64 x] w fun e w' => e = .returned (.int .i64 (loadE n a x)) ∧ w = w' := by
  by_cases hw : isW x = true
  · have hx8 := isW_iff.1 hw
    have HW := Lib.hid hw
    have hlo : 1 ≤ x := by omega
    have hhi : x ≤ 8 := by omega
    by_cases hr : 0 ≤ a ∧ a + x ≤ n
    · have H := Lib.hid (show loadE n a x = 0 by simp only [loadE, hw, if_true, if_pos hr])
      rw [H.out]
      have h0 : ¬ a < 0 := by omega
      have h1 : ¬ (n : Int) < x := by omega
      have h2 : ¬ (n : Int) - x < a := by omega
      clear hw hx8 hr
      go_enter Try.func44, Try.ntmps44
      go_wp2_with (go_at_call 38; refine (wide_spec x _).mono ?_; rw [HW.out]; rintro e w' ⟨rfl, rfl⟩)
      go_ret
      exact ⟨rfl, rfl⟩
    · have H := Lib.hid (show loadE n a x = 6 by simp only [loadE, hw, if_true, if_neg hr])
      rw [H.out]
      by_cases h0 : a < 0
      · clear hw hx8 hr
        go_enter Try.func44, Try.ntmps44
        go_wp2_with (go_at_call 38; refine (wide_spec x _).mono ?_; rw [HW.out]; rintro e w' ⟨rfl, rfl⟩)
        go_ret
        exact ⟨rfl, rfl⟩
      · by_cases h1 : (n : Int) < x
        · clear hw hx8 hr
          go_enter Try.func44, Try.ntmps44
          go_wp2_with (go_at_call 38; refine (wide_spec x _).mono ?_; rw [HW.out]; rintro e w' ⟨rfl, rfl⟩)
          go_ret
          exact ⟨rfl, rfl⟩
        · have h2 : (n : Int) - x < a := by omega
          clear hw hx8 hr
          go_enter Try.func44, Try.ntmps44
          go_wp2_with (go_at_call 38; refine (wide_spec x _).mono ?_; rw [HW.out]; rintro e w' ⟨rfl, rfl⟩)
          go_ret
          exact ⟨rfl, rfl⟩
  · have hw' : isW x = false := by simpa using hw
    have H := Lib.hid (show loadE n a x = 2 by simp [loadE, hw'])
    have HW := Lib.hid hw'
    rw [H.out]
    clear hw hw'
    go_enter Try.func44, Try.ntmps44
    go_wp2_with (go_at_call 38; refine (wide_spec x _).mono ?_; rw [HW.out]; rintro e w' ⟨rfl, rfl⟩)
    go_ret
    exact ⟨rfl, rfl⟩

set_option maxRecDepth 100000 in
set_option maxHeartbeats 1000000 in
theorem rload_spec (A : Option Addr) (n c : Nat) (a x : Int) (l : List UInt8) (w : World) (hl : IsB w A n l) (hn : n ≤ 9223372036854775807) :
    Calls Try.prog 36 #[.slice A n c, .int .i64 a, .int .i64 x] w fun e w' => e = .returned (.tuple #[.int .u64 (loadU l a x), .int .i64 (loadE n a x)]) ∧ Below w.heap.size w w' := by
  have hlen := hl.1
  subst hlen
  rcases load_cases l a x with ⟨k, y, rfl, rfl, h1, h2, h3, h4, e1, e2⟩ | ⟨e1, e2, e3⟩
  · rw [e1, e2]
    have HL := Lib.hid hl
    have H2 := Lib.hid h2
    have E1 := Lib.hid e1
    generalize hp : (l.drop k).take y = p
    have hpl : p.length = y := by rw [← hp, List.length_take, List.length_drop]; omega
    have hpc : ∀ t, t < y → ∃ c : UInt8, p.drop t = c :: p.drop (t + 1) ∧ ∃ b off, A = some ⟨b, off, none⟩ ∧ w.cell? ⟨b, off + (k + t), none⟩ = some (.int .u8 (c.toNat : Int)) := by
      intro t ht
      obtain ⟨b, off, e, hk, hc⟩ := isb_at hl (k := k + t) (by omega)
      refine ⟨l[k + t], ?_, b, off, e, hc⟩
      rw [List.drop_eq_getElem_cons (by omega)]
      congr 1
      simp only [← hp]
      rw [List.getElem_take, List.getElem_drop]
    have HP := Lib.hid hpc
    have HPL := Lib.hid hpl
    clear hl e1 e2 h1 hp hpl hpc
    go_enter Try.func36, Try.ntmps36
    go_wp2_with (go_at_call 44; refine (look_spec A _ c _ _ _ hn).mono ?_; rw [E1.out]; rintro e w' ⟨rfl, rfl⟩)
    go_loopw [9, 10] (fun N i wr => ∃ t : Nat, t ≤ y ∧ i = .int .i64 ((t : Int) - 1) ∧ N = .int .u64 (leVal (p.drop t)) ∧ wr = w) (fun _ i _ => (intOf i + 1).toNat)
    case atStart => exact ⟨y, by omega, rfl, by rw [List.drop_eq_nil_of_le (by rw [HPL.out]; exact Nat.le_refl _)]; rfl, rfl⟩
    case round =>
      obtain ⟨t, ht, rfl, rfl, rfl⟩ := hrel
      rcases Nat.eq_zero_or_pos t with h0 | h0
      · subst h0
        go_wp2
        go_ret2
        exact ⟨rfl, Below.refl _ _⟩
      · obtain ⟨t, rfl⟩ : ∃ s, t = s + 1 := ⟨t - 1, by omega⟩
        obtain ⟨d, hd, b, off, rfl, hc⟩ := HP.out t (by omega)
        have hN : leVal (p.drop t) = d.toNat + 256 * leVal (p.drop (t + 1)) := by rw [hd]; rfl
        have hNb : leVal (p.drop (t + 1)) < 72057594037927936 := by
          have := leVal_lt (p.drop (t + 1))
          rw [List.length_drop, HPL.out] at this
          exact Nat.lt_of_lt_of_le this (Nat.pow_le_pow_right (by omega) (by omega : 8 * (y - (t + 1)) ≤ 56))
        have HN := Lib.hid hN
        clear hN hd
        generalize leVal (p.drop (t + 1)) = M at hNb HN
        have hd8 := d.toNat_lt
        go_wp2
        refine ⟨⟨t, by omega, rfl, ?_, trivial⟩, by simp [intOf]⟩
        rw [HN.out]
        congr 1
        first | (rw [u64_in (d.toNat : Int) (by omega), u64_in _ (by omega)]; omega) | omega
  · rw [e2]
    have HE := Lib.hid e1
    have hne : (loadE l.length a x != 0) = true := by simpa using e1
    clear hl e1 e2 e3
    go_enter Try.func36, Try.ntmps36
    go_wp2_with (go_at_call 44; refine (look_spec A _ c _ _ _ hn).mono ?_; rintro e w' ⟨rfl, rfl⟩)
    go_ret2
    exact ⟨rfl, Below.refl _ _⟩

theorem ret_t1 {k : IntKind} {a b : Int} {v : Value} (h : a = b) : Ending.returned (.tuple #[.int k a, v]) = .returned (.tuple #[.int k b, v]) := by rw [h]
/-- A number of so many bytes, read as signed. -/
def sx (w u : Nat) : Int := if u < 2 ^ (8 * w - 1) then u else (u : Int) - 2 ^ (8 * w)
/-- What LoadInt returns. -/
def loadI (l : List UInt8) (a w : Int) : Int := if isW w = true ∧ 0 ≤ a ∧ a + w ≤ l.length then sx w.toNat (loadU l a w) else 0
theorem loadU_lt (l : List UInt8) (a : Int) (x : Nat) : loadU l a x < 2 ^ (8 * x) := by
  unfold loadU
  split
  · refine Nat.lt_of_lt_of_le (leVal_lt _) (Nat.pow_le_pow_right (by omega) ?_)
    have := List.length_take_le x (l.drop a.toNat)
    simp only [Int.toNat_natCast]
    omega
  · exact Nat.two_pow_pos _
theorem wrap64_in (n : Int) (h : -9223372036854775808 ≤ n ∧ n ≤ 9223372036854775807) : wrap64 n = n := by unfold wrap64; omega

theorem load_spec2 (A : Option Addr) (n c : Nat) (a x : Int) (l : List UInt8) (w : World) (er : Int) (u : Nat) (hl : IsB w A n l) (hc : n ≤ c) (hn : n ≤ 9223372036854775807) (h1 : loadE n a x = er) (h2 : loadU l a x = u) :
    Calls Try.prog 15 #[.slice A n c, .int .i64 a, .int .i64 x] w fun e w' => e = .returned (.tuple #[.int .u64 u, .int .i64 er]) ∧ Below w.heap.size w w' := by
  subst h1 h2
  exact load_spec A n c a x l w hl hc hn
theorem rload_spec2 (A : Option Addr) (n c : Nat) (a x : Int) (l : List UInt8) (w : World) (er : Int) (u : Nat) (hl : IsB w A n l) (hn : n ≤ 9223372036854775807) (h1 : loadE n a x = er) (h2 : loadU l a x = u) :
    Calls Try.prog 36 #[.slice A n c, .int .i64 a, .int .i64 x] w fun e w' => e = .returned (.tuple #[.int .u64 u, .int .i64 er]) ∧ Below w.heap.size w w' := by
  subst h1 h2
  exact rload_spec A n c a x l w hl hn

end Go.Proofs.Ytmahemllfghdfaa
