/-
  Package le and its reference: the walks of the readers.
-/
import Derived.Test.YtmahemllfghdfaaLib
namespace Go.Proofs.Ytmahemllfghdfaa
open Go.RowKit Go.Acc

def bc (c : UInt8) : List Value := [.int .u8 (c.toNat : Int)]
theorem bc_len (x : UInt8) : (bc x).length = 1 := rfl
theorem bc_one (x : UInt8) : ∀ u ∈ bc x, u.oneCell' = true := by
  intro u hu
  simp [bc] at hu
  rw [hu]; rfl
abbrev IsB := Is bc
abbrev OwnB := Own bc 1 5
theorem isb_at {w : World} {A : Option Addr} {n : Nat} {l : List UInt8} (h : IsB w A n l) {k : Nat} (hk : k < n) :
    ∃ b off, A = some ⟨b, off, none⟩ ∧ ∃ hk : k < l.length, w.cell? ⟨b, off + k, none⟩ = some (.int .u8 (l[k].toNat : Int)) := by
  obtain ⟨b, off, e, hk', hc⟩ := h.at_ bc_len (by omega) hk
  have := hc 0 (by omega)
  rw [Nat.mul_one, Nat.add_zero] at this
  exact ⟨b, off, e, hk', this⟩

def isW (w : Int) : Bool := decide (w = 1 ∨ w = 2 ∨ w = 4 ∨ w = 8)
theorem isW_iff {w : Int} : isW w = true ↔ w = 1 ∨ w = 2 ∨ w = 4 ∨ w = 8 := by simp [isW]
theorem isW_no {w : Int} : isW w = false ↔ w ≠ 1 ∧ w ≠ 2 ∧ w ≠ 4 ∧ w ≠ 8 := by simp [isW]; 

set_option maxHeartbeats 400000 in
theorem is_spec (x : Int) (w : World) : Calls Try.prog 43 #[.int .i64 x] w fun e w' => e = .returned (.bool (isW x)) ∧ w = w' := by
  by_cases h1 : x = 1
  · subst h1
    go_enter Try.func43, Try.ntmps43
    go_wp2
    go_ret
    exact ⟨rfl, rfl⟩
  by_cases h2 : x = 2
  · subst h2
    go_enter Try.func43, Try.ntmps43
    go_wp2
    go_ret
    exact ⟨rfl, rfl⟩
  by_cases h4 : x = 4
  · subst h4
    go_enter Try.func43, Try.ntmps43
    go_wp2
    go_ret
    exact ⟨rfl, rfl⟩
  by_cases h8 : x = 8
  · subst h8
    go_enter Try.func43, Try.ntmps43
    go_wp2
    go_ret
    exact ⟨rfl, rfl⟩
  have H := Lib.hid (isW_no.2 ⟨h1, h2, h4, h8⟩)
  have e1 : (x == 1) = false := by simpa using h1
  have e2 : (x == 2) = false := by simpa using h2
  have e4 : (x == 4) = false := by simpa using h4
  have e8 : (x == 8) = false := by simpa using h8
  clear h1 h2 h4 h8
  go_enter Try.func43, Try.ntmps43
  go_wp2
  go_ret
  exact ⟨ret_bool H.out.symm, rfl⟩
set_option maxHeartbeats 400000 in
theorem wide_spec (x : Int) (w : World) : Calls Try.prog 38 #[.int .i64 x] w fun e w' => e = .returned (.bool (isW x)) ∧ w = w' := by
  by_cases h1 : x = 1
  · subst h1
    go_enter Try.func38, Try.ntmps38
    go_wp2
    go_ret
    exact ⟨rfl, rfl⟩
  by_cases h2 : x = 2
  · subst h2
    go_enter Try.func38, Try.ntmps38
    go_wp2
    go_ret
    exact ⟨rfl, rfl⟩
  by_cases h4 : x = 4
  · subst h4
    go_enter Try.func38, Try.ntmps38
    go_wp2
    go_ret
    exact ⟨rfl, rfl⟩
  by_cases h8 : x = 8
  · subst h8
    go_enter Try.func38, Try.ntmps38
    go_wp2
    go_ret
    exact ⟨rfl, rfl⟩
  have H := Lib.hid (isW_no.2 ⟨h1, h2, h4, h8⟩)
  have e1 : (x == 1) = false := by simpa using h1
  have e2 : (x == 2) = false := by simpa using h2
  have e4 : (x == 4) = false := by simpa using h4
  have e8 : (x == 8) = false := by simpa using h8
  clear h1 h2 h4 h8
  go_enter Try.func38, Try.ntmps38
  go_wp2
  go_ret
  exact ⟨ret_bool H.out.symm, rfl⟩

/-- The error of a width and an offset. -/
def loadE (n : Nat) (at_ w : Int) : Int := if isW w = true then (if 0 ≤ at_ ∧ at_ + w ≤ n then 0 else 6) else 2

set_option maxHeartbeats 400000 in
theorem within_no (A : Option Addr) (n c : Nat) (a x : Int) (f : Value) (w : World) (h : loadE n a x ≠ 0) (hn : n ≤ 9223372036854775807) :
    Calls Try.prog 33 #[.slice A n c, .int .i64 a, .int .i64 x, f] w fun e w' => e = .returned (.int .i64 (loadE n a x)) ∧ w = w' := by
  by_cases hw : isW x = true
  · have hx8 := isW_iff.1 hw
    have hr : ¬ (0 ≤ a ∧ a + x ≤ n) := by intro hh; simp [loadE, hw, hh] at h
    have H := Lib.hid (show loadE n a x = 6 by simp only [loadE, hw, if_true, if_neg hr])
    have HW := Lib.hid hw
    have hlo : 1 ≤ x := by omega
    have hhi : x ≤ 8 := by omega
    rw [H.out]
    by_cases h0 : a < 0
    · clear h hw hx8 hr
      go_enter Try.func33, Try.ntmps33
      go_wp2_with (go_at_call 43; refine (is_spec x _).mono ?_; rw [HW.out]; rintro e w' ⟨rfl, rfl⟩)
      go_ret
      exact ⟨rfl, rfl⟩
    · have h1 : (n : Int) - x < a := by omega
      clear h hw hx8 hr
      go_enter Try.func33, Try.ntmps33
      go_wp2_with (go_at_call 43; refine (is_spec x _).mono ?_; rw [HW.out]; rintro e w' ⟨rfl, rfl⟩)
      go_ret
      exact ⟨rfl, rfl⟩
  · have hw' : isW x = false := by simpa using hw
    have H := Lib.hid (show loadE n a x = 2 by simp [loadE, hw'])
    have HW := Lib.hid hw'
    rw [H.out]
    clear h hw hw'
    go_enter Try.func33, Try.ntmps33
    go_wp2_with (go_at_call 43; refine (is_spec x _).mono ?_; rw [HW.out]; rintro e w' ⟨rfl, rfl⟩)
    go_ret
    exact ⟨rfl, rfl⟩

set_option maxHeartbeats 400000 in
/-- In range: the closure is called upon the part. -/
theorem within_yes (A : Option Addr) (n c a x : Nat) (F : Nat) (caps : Array Value) (w : World) (R : Ending → World → Prop) (hw : isW x = true) (hr : a + x ≤ n) (hc : n ≤ c) (hn : n ≤ 9223372036854775807)
    (hF : ∀ (args : Array Value) (w : World), (callFunc F args).run Try.prog w = .ok (.enter F args) w)
    (h : Calls Try.prog F (#[.slice (A.map fun p => p.add a) x (c - a)] ++ caps) w fun e w' => (∃ v : Int, e = .returned (.int .i64 v)) ∧ R e w') :
    Calls Try.prog 33 #[.slice A n c, .int .i64 a, .int .i64 x, .func (.func F) #[] caps] w R := by
  have hx8 : (1 : Int) ≤ x ∧ (x : Int) ≤ 8 := by have := isW_iff.1 hw; omega
  have hca : ¬ c = a := by omega
  have hlo := hx8.1
  have hhi := hx8.2
  have HW := Lib.hid hw
  have HC := Lib.hid h
  clear hx8 hw h
  go_enter Try.func33, Try.ntmps33
  go_wp2_with (go_at_call 43; refine (is_spec x _).mono ?_; rw [HW.out]; rintro e w' ⟨rfl, rfl⟩)
  refine HC.out.mono ?_
  rintro e w' ⟨⟨v, rfl⟩, hR⟩
  have HR := Lib.hid hR
  clear hR hF
  go_wp2
  exact HR.out

/-- The number that bytes encode, least significant first. -/
def leVal : List UInt8 → Nat
  | [] => 0
  | c :: l => c.toNat + 256 * leVal l
theorem leVal_snoc (l : List UInt8) (c : UInt8) : leVal (l ++ [c]) = leVal l + c.toNat * 2 ^ (8 * l.length) := by
  induction l with
  | nil => simp [leVal]
  | cons d l ih =>
    simp only [List.cons_append, leVal, ih, List.length_cons]
    rw [show 8 * (l.length + 1) = 8 * l.length + 8 by omega, Nat.pow_add, Nat.mul_add, show (2 : Nat) ^ 8 = 256 by rfl]
    rw [Nat.mul_comm (2 ^ (8 * l.length)) 256, Nat.mul_left_comm]
    omega
theorem leVal_lt (l : List UInt8) : leVal l < 2 ^ (8 * l.length) := by
  induction l with
  | nil => simp [leVal]
  | cons d l ih =>
    have := d.toNat_lt
    rw [leVal, List.length_cons, show 8 * (l.length + 1) = 8 * l.length + 8 by omega, Nat.pow_add, show (2 : Nat) ^ 8 = 256 by rfl]
    omega

/-- One step of the loop: or with the next byte, shifted. -/
theorem le_step (u c : Nat) (k : Nat) (hu : u < 2 ^ (8 * k)) : u ||| (c <<< (8 * k)) = u + c * 2 ^ (8 * k) := by
  rw [Nat.or_comm, ← Nat.shiftLeft_add_eq_or_of_lt hu, Nat.shiftLeft_eq, Nat.add_comm]

theorem u64_in (n : Int) (h : 0 ≤ n ∧ n ≤ 18446744073709551615) : IntKind.u64.wrap n = n := by
  rw [IntKind.wrap_u64]; omega
theorem le_or (u c k : Nat) (hk : k < 8) (hu : u < 2 ^ (8 * k)) (hc : c < 256) : bits .or .u64 (u : Int) (IntKind.u64.wrap (IntKind.u64.wrap (c : Int) * 2 ^ (8 * k))) = ((u + c * 2 ^ (8 * k) : Nat) : Int) := by
  have hp : 2 ^ (8 * k) ≤ 2 ^ 56 := Nat.pow_le_pow_right (by omega) (by omega)
  have h1 : c * 2 ^ (8 * k) ≤ 255 * 2 ^ 56 := Nat.mul_le_mul (by omega) hp
  have e1 : IntKind.u64.wrap (c : Int) = c := u64_in _ (by omega)
  have e2 : (c : Int) * 2 ^ (8 * k) = ((c * 2 ^ (8 * k) : Nat) : Int) := by simp
  rw [e1, e2, u64_in _ (by omega)]
  rw [u64_or_nat _ _ (by omega) (by omega), ← le_step u c k hu, Nat.shiftLeft_eq]

set_option maxHeartbeats 1000000 in
theorem loadc_spec (A : Option Addr) (n c ub : Nat) (l : List UInt8) (w : World) (hl : IsB w A n l) (hn : n ≤ 8) (hu : Blk w ub 41 #[.int .u64 0]) (hne : ∀ ad, A = some ad → ad.block ≠ ub) :
    Calls Try.prog 34 #[.slice A n c, .pointer (some ⟨ub, 0, none⟩)] w fun e w' => (∃ v : Int, e = .returned (.int .i64 v)) ∧ e = .returned (.int .i64 0) ∧ Blk w' ub 41 #[.int .u64 (leVal l)] ∧ Fr (fun k => k = ub) w w' := by
  have HL := Lib.hid hl
  have HU := Lib.hid hu
  have HN := Lib.hid hne
  clear hl hu hne
  go_enter Try.func34, Try.ntmps34
  go_wp2
  go_loopw [8] (fun i wr => ∃ k : Nat, k ≤ n ∧ i = .int .i64 k ∧ Blk wr ub 41 #[.int .u64 (leVal (l.take k))] ∧ IsB wr A n l ∧ Fr (fun k => k = ub) w wr) (fun i _ => n - (intOf i).toNat)
  case atStart => exact ⟨0, by omega, rfl, HU.out, HL.out, Fr.refl _ _⟩
  case round =>
    obtain ⟨k, hk, rfl, hU, hL, hf⟩ := hrel
    by_cases hlt : k < n
    · obtain ⟨b, off, rfl, hkl, c0⟩ := isb_at hL hlt
      have u0 : wr.cell? ⟨ub, 0, none⟩ = some (.int .u64 (leVal (l.take k))) := hU.cell 0
      have f0 := hU.frozen 0
      have HU := Lib.hid hU
      have HL := Lib.hid hL
      have HF := Lib.hid hf
      clear hU hL hf
      have e1 := le_or (leVal (l.take k)) l[k].toNat k (by omega) (by have := leVal_lt (l.take k); rwa [List.length_take, Nat.min_eq_left (by omega)] at this) l[k].toNat_lt
      have e2 : leVal (l.take k) + l[k].toNat * 2 ^ (8 * k) = leVal (l.take (k + 1)) := by
        rw [List.take_succ_eq_append_getElem hkl, leVal_snoc, List.length_take, Nat.min_eq_left (by omega)]
      rw [e2] at e1
      have E1 := Lib.hid e1
      clear e1 e2
      go_wp2
      go_region
      rw [E1.out]
      have hS : Fr (fun k => k = ub) w ((wr.setCell ⟨ub, 0, none⟩ (.int .u64 (leVal (l.take (k + 1))))).drew) := (Fr.setCell (S := fun k => k = ub) HF.out (fun _ => rfl) _).drew
      have hB : Blk ((wr.setCell ⟨ub, 0, none⟩ (.int .u64 (leVal (l.take (k + 1))))).drew) ub 41 #[.int .u64 (leVal (l.take (k + 1)))] := (HU.out.set_ 0 (.int .u64 (leVal (l.take (k + 1)))))
      have hI : IsB ((wr.setCell ⟨ub, 0, none⟩ (.int .u64 (leVal (l.take (k + 1))))).drew) (some ⟨b, off, none⟩) n l := (HL.out.fr (S := fun k => k = ub) (Fr.setCell (S := fun k => k = ub) (Fr.refl _ _) (fun _ => rfl) _).drew (HN.out))
      have HE := Lib.hid (And.intro hS (And.intro hB hI))
      clear hS hB hI
      go_wp2
      go_roundw
      case rel => exact ⟨k + 1, by omega, by go_num, HE.out.2.1, HE.out.2.2, HE.out.1⟩
      case measure => simp [intOf]; omega
    · obtain rfl : k = n := by omega
      rw [List.take_of_length_le (by rw [hL.1]; exact Nat.le_refl _)] at hU
      have HU := Lib.hid hU
      have HF := Lib.hid hf
      clear hU hL hf
      go_wp2
      go_ret
      exact ⟨⟨0, rfl⟩, rfl, HU.out, HF.out⟩

/-- What Load returns. -/
def loadU (l : List UInt8) (a w : Int) : Nat := if isW w = true ∧ 0 ≤ a ∧ a + w ≤ l.length then leVal ((l.drop a.toNat).take w.toNat) else 0
theorem load_cases (l : List UInt8) (a w : Int) : (∃ k x : Nat, a = k ∧ w = x ∧ isW (x : Int) = true ∧ k + x ≤ l.length ∧ 1 ≤ x ∧ x ≤ 8 ∧ loadE l.length a w = 0 ∧ loadU l a w = leVal ((l.drop k).take x)) ∨ (loadE l.length a w ≠ 0 ∧ loadU l a w = 0 ∧ ¬ (isW w = true ∧ 0 ≤ a ∧ a + w ≤ l.length)) := by
  by_cases h : isW w = true ∧ 0 ≤ a ∧ a + w ≤ l.length
  · obtain ⟨h1, h2, h3⟩ := h
    have h4 := isW_iff.1 h1
    obtain ⟨k, rfl⟩ := Int.eq_ofNat_of_zero_le h2
    obtain ⟨x, rfl⟩ := Int.eq_ofNat_of_zero_le (a := w) (by omega)
    exact .inl ⟨k, x, rfl, rfl, h1, by omega, by omega, by omega, by simp only [loadE, h1, if_true]; exact if_pos ⟨h2, h3⟩, by unfold loadU; rw [if_pos ⟨h1, h2, h3⟩]; rfl⟩
  · refine .inr ⟨?_, if_neg h, h⟩
    intro e
    unfold loadE at e
    split at e
    · rename_i h1
      split at e
      · rename_i h2
        exact h ⟨h1, h2⟩
      · cases e
    · cases e

theorem isb_part {w : World} {A : Option Addr} {n k x : Nat} {l : List UInt8} (h : IsB w A n l) (hk : k + x ≤ n) : IsB w (A.map fun p => p.add k) x ((l.drop k).take x) := by
  have h1 := (h.cut1 bc_len (k := k)).take bc_len (k := x) (by omega)
  simpa [Nat.mul_one] using h1
theorem map_block {A : Option Addr} {k : Nat} {ad : Addr} (h : (A.map fun p => p.add k) = some ad) : ∃ a, A = some a ∧ ad.block = a.block := by
  cases A with
  | none => cases h
  | some a =>
    injection h with h
    subst h
    exact ⟨a, rfl, by show (a.add k).block = _; unfold Addr.add; split <;> rfl⟩
set_option maxHeartbeats 1000000 in
theorem load_spec (A : Option Addr) (n c : Nat) (a x : Int) (l : List UInt8) (w : World) (hl : IsB w A n l) (hc : n ≤ c) (hn : n ≤ 9223372036854775807) :
    Calls Try.prog 15 #[.slice A n c, .int .i64 a, .int .i64 x] w fun e w' => e = .returned (.tuple #[.int .u64 (loadU l a x), .int .i64 (loadE n a x)]) ∧ Below w.heap.size w w' := by
  have hlen := hl.1
  subst hlen
  rcases load_cases l a x with ⟨k, y, rfl, rfl, h1, h2, h3, h4, e1, e2⟩ | ⟨e1, e2, e3⟩
  · rw [e1, e2]
    have HL := Lib.hid hl
    have HW := Lib.hid h1
    have H2 := Lib.hid h2
    clear hl e1 e2 h1
    go_enter Try.func15, Try.ntmps15
    go_wp2_with fail
    refine (within_yes A l.length c k y 34 #[.pointer (some ⟨w.heap.size, 0, none⟩)] _ (fun e w' => e = .returned (.int .i64 0) ∧ Blk w' w.heap.size 41 #[.int .u64 (leVal ((l.drop k).take y))] ∧ Fr (fun k => k = w.heap.size) (w.alloc (.cells #[.int .u64 0] 41)) w') HW.out H2.out hc hn Try.call34
      (loadc_spec _ y _ w.heap.size _ _ (isb_part (HL.out.alloc _) H2.out) h4 (Blk.new w _ _) (fun ad h => ?_))).mono ?_
    · obtain ⟨a', h', e⟩ := map_block h
      obtain ⟨b', off', e', hb'⟩ := HL.out.some_ bc_len (by omega) (by have := H2.out; omega)
      rw [h'] at e'
      injection e' with e'
      subst e'
      show ad.block ≠ w.heap.size
      rw [e]
      exact Nat.ne_of_lt hb'
    · rintro e w2 ⟨rfl, hB, hf⟩
      have u0 : w2.cell? ⟨w.heap.size, 0, none⟩ = some (.int .u64 (leVal ((l.drop k).take y))) := hB.cell 0
      have f0 := hB.frozen 0
      have HB := Lib.hid hB
      have HF := Lib.hid hf
      clear hB hf
      go_wp2
      refine bodyPost_ret (v := .tuple #[.int .u64 (leVal ((l.drop k).take y)), .int .i64 0]) (by simp [results, Try.results15, go_sem, u0]) rfl ⟨rfl, ?_⟩
      refine below_fr ((Below.refl _ _).alloc (Nat.le_refl _) _) (Fr.setCell (S := fun k => k = w.heap.size) HF.out (fun _ => rfl) _) ?_
      rintro k' rfl
      exact Nat.le_refl _
  · rw [e2]
    have HE := Lib.hid e1
    clear hl e1 e2 e3
    go_enter Try.func15, Try.ntmps15
    go_wp2_with fail
    refine (within_no A l.length c a x _ _ HE.out hn).mono ?_
    rintro e w' ⟨rfl, rfl⟩
    go_wp2
    refine bodyPost_ret (v := .tuple #[.int .u64 0, .int .i64 (loadE l.length a x)]) (by simp [results, Try.results15, go_sem]) rfl ⟨rfl, ?_⟩
    exact (Below.refl _ _).alloc (Nat.le_refl _) _

end Go.Proofs.Ytmahemllfghdfaa
