/-
  Package le and its reference: the walks of the readers.
  Packages tag, width and their references: the walks.
  Packages tag and width and their references: the walks.
  The reference's reader, the signed readers.
-/
import Derived.Test.YtfoifdoaleaekaaGreatQf01
import Derived.Deep.WholeRow
namespace Go.Proofs.YtfoifdoaleaekaaGreat
open Go.RowKit Go.Acc

def bc (c : UInt8) : List Value := [.int .u8 (c.toNat : Int)]
theorem bc_len (x : UInt8) : (bc x).length = 1 := rfl
theorem bc_one (x : UInt8) : ∀ u ∈ bc x, u.oneCell' = true := by
  intro u hu
  simp [bc] at hu
  rw [hu]; rfl
abbrev IsB := Is bc
abbrev OwnB := Own bc 1 5
theorem isb_at {w : World} {A : Option Addr} {n : Nat} {l : List UInt8} (h : IsB w A n l) {k : Nat} (hk : k < n) :
    ∃ b off, A = some ⟨b, off, none⟩ ∧ ∃ hk : k < l.length, w.cell? ⟨b, off + k, none⟩ = some (.int .u8 (l[k].toNat : Int)) := by
  obtain ⟨b, off, e, hk', hc⟩ := h.at_ bc_len (by omega) hk
  have := hc 0 (by omega)
  rw [Nat.mul_one, Nat.add_zero] at this
  exact ⟨b, off, e, hk', this⟩

def isW (w : Int) : Bool := decide (w = 1 ∨ w = 2 ∨ w = 4 ∨ w = 8)
theorem isW_iff {w : Int} : isW w = true ↔ w = 1 ∨ w = 2 ∨ w = 4 ∨ w = 8 := by simp [isW]
theorem isW_no {w : Int} : isW w = false ↔ w ≠ 1 ∧ w ≠ 2 ∧ w ≠ 4 ∧ w ≠ 8 := by simp [isW]; 

set_option maxHeartbeats 400000 in
theorem is_spec (x : Int) (w : World) : Calls Tryz.prog 138 #[.int .i64 x] w fun e w' => e = .returned (.bool (isW x)) ∧ w = w' := by
  by_cases h1 : x = 1
  · subst h1
    go_enter Tryz.func138, Tryz.ntmps138
    go_wp2
    go_ret
    exact ⟨rfl, rfl⟩
  by_cases h2 : x = 2
  · subst h2
    go_enter Tryz.func138, Tryz.ntmps138
    go_wp2
    go_ret
    exact ⟨rfl, rfl⟩
  by_cases h4 : x = 4
  · subst h4
    go_enter Tryz.func138, Tryz.ntmps138
    go_wp2
    go_ret
    exact ⟨rfl, rfl⟩
  by_cases h8 : x = 8
  · subst h8
    go_enter Tryz.func138, Tryz.ntmps138
    go_wp2
    go_ret
    exact ⟨rfl, rfl⟩
  have H := Lib.hid (isW_no.2 ⟨h1, h2, h4, h8⟩)
  have e1 : (x == 1) = false := by simpa using h1
  have e2 : (x == 2) = false := by simpa using h2
  have e4 : (x == 4) = false := by simpa using h4
  have e8 : (x == 8) = false := by simpa using h8
  clear h1 h2 h4 h8
  go_enter Tryz.func138, Tryz.ntmps138
  go_wp2
  go_ret
  exact ⟨ret_bool H.out.symm, rfl⟩
def loadE (n : Nat) (at_ w : Int) : Int := if isW w = true then (if 0 ≤ at_ ∧ at_ + w ≤ n then 0 else 6) else 2

set_option maxHeartbeats 400000 in
theorem within_no (A : Option Addr) (n c : Nat) (a x : Int) (f : Value) (w : World) (h : loadE n a x ≠ 0) (hn : n ≤ 9223372036854775807) :
    Calls Tryz.prog 85 #[.slice A n c, .int .i64 a, .int .i64 x, f] w fun e w' => e = .returned (.int .i64 (loadE n a x)) ∧ w = w' := by
  by_cases hw : isW x = true
  · have hx8 := isW_iff.1 hw
    have hr : ¬ (0 ≤ a ∧ a + x ≤ n) := by intro hh; simp [loadE, hw, hh] at h
    have H := Lib.hid (show loadE n a x = 6 by simp only [loadE, hw, if_true, if_neg hr])
    have HW := Lib.hid hw
    have hlo : 1 ≤ x := by omega
    have hhi : x ≤ 8 := by omega
    rw [H.out]
    by_cases h0 : a < 0
    · clear h hw hx8 hr
      go_enter Tryz.func85, Tryz.ntmps85
      go_wp2_with (go_at_call 138; refine (is_spec x _).mono ?_; rw [HW.out]; rintro e w' ⟨rfl, rfl⟩)
      go_ret
      exact ⟨rfl, rfl⟩
    · have h1 : (n : Int) - x < a := by omega
      clear h hw hx8 hr
      go_enter Tryz.func85, Tryz.ntmps85
      go_wp2_with (go_at_call 138; refine (is_spec x _).mono ?_; rw [HW.out]; rintro e w' ⟨rfl, rfl⟩)
      go_ret
      exact ⟨rfl, rfl⟩
  · have hw' : isW x = false := by simpa using hw
    have H := Lib.hid (show loadE n a x = 2 by simp [loadE, hw'])
    have HW := Lib.hid hw'
    rw [H.out]
    clear h hw hw'
    go_enter Tryz.func85, Tryz.ntmps85
    go_wp2_with (go_at_call 138; refine (is_spec x _).mono ?_; rw [HW.out]; rintro e w' ⟨rfl, rfl⟩)
    go_ret
    exact ⟨rfl, rfl⟩

set_option maxHeartbeats 400000 in
/-- In range: the closure is called upon the part. -/
theorem within_yes (A : Option Addr) (n c a x : Nat) (F : Nat) (caps : Array Value) (w : World) (R : Ending → World → Prop) (hw : isW x = true) (hr : a + x ≤ n) (hc : n ≤ c) (hn : n ≤ 9223372036854775807)
    (hF : ∀ (args : Array Value) (w : World), (callFunc F args).run Tryz.prog w = .ok (.enter F args) w)
    (h : Calls Tryz.prog F (#[.slice (A.map fun p => p.add a) x (c - a)] ++ caps) w fun e w' => (∃ v : Int, e = .returned (.int .i64 v)) ∧ R e w') :
    Calls Tryz.prog 85 #[.slice A n c, .int .i64 a, .int .i64 x, .func (.func F) #[] caps] w R := by
  have hx8 : (1 : Int) ≤ x ∧ (x : Int) ≤ 8 := by have := isW_iff.1 hw; omega
  have hca : ¬ c = a := by omega
  have hlo := hx8.1
  have hhi := hx8.2
  have HW := Lib.hid hw
  have HC := Lib.hid h
  clear hx8 hw h
  go_enter Tryz.func85, Tryz.ntmps85
  go_wp2_with (go_at_call 138; refine (is_spec x _).mono ?_; rw [HW.out]; rintro e w' ⟨rfl, rfl⟩)
  refine HC.out.mono ?_
  rintro e w' ⟨⟨v, rfl⟩, hR⟩
  have HR := Lib.hid hR
  clear hR hF
  go_wp2
  exact HR.out

def leVal : List UInt8 → Nat
  | [] => 0
  | c :: l => c.toNat + 256 * leVal l
theorem leVal_snoc (l : List UInt8) (c : UInt8) : leVal (l ++ [c]) = leVal l + c.toNat * 2 ^ (8 * l.length) := by
  induction l with
  | nil => simp [leVal]
  | cons d l ih =>
    simp only [List.cons_append, leVal, ih, List.length_cons]
    rw [show 8 * (l.length + 1) = 8 * l.length + 8 by omega, Nat.pow_add, Nat.mul_add, show (2 : Nat) ^ 8 = 256 by rfl]
    rw [Nat.mul_comm (2 ^ (8 * l.length)) 256, Nat.mul_left_comm]
    omega
theorem leVal_lt (l : List UInt8) : leVal l < 2 ^ (8 * l.length) := by
  induction l with
  | nil => simp [leVal]
  | cons d l ih =>
    have := d.toNat_lt
    rw [leVal, List.length_cons, show 8 * (l.length + 1) = 8 * l.length + 8 by omega, Nat.pow_add, show (2 : Nat) ^ 8 = 256 by rfl]
    omega

theorem le_step (u c : Nat) (k : Nat) (hu : u < 2 ^ (8 * k)) : u ||| (c <<< (8 * k)) = u + c * 2 ^ (8 * k) := by
  rw [Nat.or_comm, ← Nat.shiftLeft_add_eq_or_of_lt hu, Nat.shiftLeft_eq, Nat.add_comm]

theorem u64_in (n : Int) (h : 0 ≤ n ∧ n ≤ 18446744073709551615) : IntKind.u64.wrap n = n := by
  rw [IntKind.wrap_u64]; omega
theorem le_or (u c k : Nat) (hk : k < 8) (hu : u < 2 ^ (8 * k)) (hc : c < 256) : bits .or .u64 (u : Int) (IntKind.u64.wrap (IntKind.u64.wrap (c : Int) * 2 ^ (8 * k))) = ((u + c * 2 ^ (8 * k) : Nat) : Int) := by
  have hp : 2 ^ (8 * k) ≤ 2 ^ 56 := Nat.pow_le_pow_right (by omega) (by omega)
  have h1 : c * 2 ^ (8 * k) ≤ 255 * 2 ^ 56 := Nat.mul_le_mul (by omega) hp
  have e1 : IntKind.u64.wrap (c : Int) = c := u64_in _ (by omega)
  have e2 : (c : Int) * 2 ^ (8 * k) = ((c * 2 ^ (8 * k) : Nat) : Int) := by simp
  rw [e1, e2, u64_in _ (by omega)]
  rw [u64_or_nat _ _ (by omega) (by omega), ← le_step u c k hu, Nat.shiftLeft_eq]

set_option maxHeartbeats 1000000 in
theorem loadc_spec (A : Option Addr) (n c ub : Nat) (l : List UInt8) (w : World) (hl : IsB w A n l) (hn : n ≤ 8) (hu : Blk w ub 22 #[.int .u64 0]) (hne : ∀ ad, A = some ad → ad.block ≠ ub) :
    Calls Tryz.prog 86 #[.slice A n c, .pointer (some ⟨ub, 0, none⟩)] w fun e w' => (∃ v : Int, e = .returned (.int .i64 v)) ∧ e = .returned (.int .i64 0) ∧ Blk w' ub 22 #[.int .u64 (leVal l)] ∧ Fr (fun k => k = ub) w w' := by
  have HL := Lib.hid hl
  have HU := Lib.hid hu
  have HN := Lib.hid hne
  clear hl hu hne
  go_enter Tryz.func86, Tryz.ntmps86
  go_wp2
  go_loopw [8] (fun i wr => ∃ k : Nat, k ≤ n ∧ i = .int .i64 k ∧ Blk wr ub 22 #[.int .u64 (leVal (l.take k))] ∧ IsB wr A n l ∧ Fr (fun k => k = ub) w wr) (fun i _ => n - (intOf i).toNat)
  case atStart => exact ⟨0, by omega, rfl, HU.out, HL.out, Fr.refl _ _⟩
  case round =>
    obtain ⟨k, hk, rfl, hU, hL, hf⟩ := hrel
    by_cases hlt : k < n
    · obtain ⟨b, off, rfl, hkl, c0⟩ := isb_at hL hlt
      have u0 : wr.cell? ⟨ub, 0, none⟩ = some (.int .u64 (leVal (l.take k))) := hU.cell 0
      have f0 := hU.frozen 0
      have HU := Lib.hid hU
      have HL := Lib.hid hL
      have HF := Lib.hid hf
      clear hU hL hf
      have e1 := le_or (leVal (l.take k)) l[k].toNat k (by omega) (by have := leVal_lt (l.take k); rwa [List.length_take, Nat.min_eq_left (by omega)] at this) l[k].toNat_lt
      have e2 : leVal (l.take k) + l[k].toNat * 2 ^ (8 * k) = leVal (l.take (k + 1)) := by
        rw [List.take_succ_eq_append_getElem hkl, leVal_snoc, List.length_take, Nat.min_eq_left (by omega)]
      rw [e2] at e1
      have E1 := Lib.hid e1
      clear e1 e2
      go_wp2
      go_region
      rw [E1.out]
      have hS : Fr (fun k => k = ub) w ((wr.setCell ⟨ub, 0, none⟩ (.int .u64 (leVal (l.take (k + 1))))).drew) := (Fr.setCell (S := fun k => k = ub) HF.out (fun _ => rfl) _).drew
      have hB : Blk ((wr.setCell ⟨ub, 0, none⟩ (.int .u64 (leVal (l.take (k + 1))))).drew) ub 22 #[.int .u64 (leVal (l.take (k + 1)))] := (HU.out.set_ 0 (.int .u64 (leVal (l.take (k + 1)))))
      have hI : IsB ((wr.setCell ⟨ub, 0, none⟩ (.int .u64 (leVal (l.take (k + 1))))).drew) (some ⟨b, off, none⟩) n l := (HL.out.fr (S := fun k => k = ub) (Fr.setCell (S := fun k => k = ub) (Fr.refl _ _) (fun _ => rfl) _).drew (HN.out))
      have HE := Lib.hid (And.intro hS (And.intro hB hI))
      clear hS hB hI
      go_wp2
      go_roundw
      case rel => exact ⟨k + 1, by omega, by go_num, HE.out.2.1, HE.out.2.2, HE.out.1⟩
      case measure => simp [intOf]; omega
    · obtain rfl : k = n := by omega
      rw [List.take_of_length_le (by rw [hL.1]; exact Nat.le_refl _)] at hU
      have HU := Lib.hid hU
      have HF := Lib.hid hf
      clear hU hL hf
      go_wp2
      go_ret
      exact ⟨⟨0, rfl⟩, rfl, HU.out, HF.out⟩

def loadU (l : List UInt8) (a w : Int) : Nat := if isW w = true ∧ 0 ≤ a ∧ a + w ≤ l.length then leVal ((l.drop a.toNat).take w.toNat) else 0
theorem load_cases (l : List UInt8) (a w : Int) : (∃ k x : Nat, a = k ∧ w = x ∧ isW (x : Int) = true ∧ k + x ≤ l.length ∧ 1 ≤ x ∧ x ≤ 8 ∧ loadE l.length a w = 0 ∧ loadU l a w = leVal ((l.drop k).take x)) ∨ (loadE l.length a w ≠ 0 ∧ loadU l a w = 0 ∧ ¬ (isW w = true ∧ 0 ≤ a ∧ a + w ≤ l.length)) := by
  by_cases h : isW w = true ∧ 0 ≤ a ∧ a + w ≤ l.length
  · obtain ⟨h1, h2, h3⟩ := h
    have h4 := isW_iff.1 h1
    obtain ⟨k, rfl⟩ := Int.eq_ofNat_of_zero_le h2
    obtain ⟨x, rfl⟩ := Int.eq_ofNat_of_zero_le (a := w) (by omega)
    exact .inl ⟨k, x, rfl, rfl, h1, by omega, by omega, by omega, by simp only [loadE, h1, if_true]; exact if_pos ⟨h2, h3⟩, by unfold loadU; rw [if_pos ⟨h1, h2, h3⟩]; rfl⟩
  · refine .inr ⟨?_, if_neg h, h⟩
    intro e
    unfold loadE at e
    split at e
    · rename_i h1
      split at e
      · rename_i h2
        exact h ⟨h1, h2⟩
      · cases e
    · cases e

theorem isb_part {w : World} {A : Option Addr} {n k x : Nat} {l : List UInt8} (h : IsB w A n l) (hk : k + x ≤ n) : IsB w (A.map fun p => p.add k) x ((l.drop k).take x) := by
  have h1 := (h.cut1 bc_len (k := k)).take bc_len (k := x) (by omega)
  simpa [Nat.mul_one] using h1
theorem map_block {A : Option Addr} {k : Nat} {ad : Addr} (h : (A.map fun p => p.add k) = some ad) : ∃ a, A = some a ∧ ad.block = a.block := by
  cases A with
  | none => cases h
  | some a =>
    injection h with h
    subst h
    exact ⟨a, rfl, by show (a.add k).block = _; unfold Addr.add; split <;> rfl⟩
set_option maxHeartbeats 1000000 in
theorem load_spec (A : Option Addr) (n c : Nat) (a x : Int) (l : List UInt8) (w : World) (hl : IsB w A n l) (hc : n ≤ c) (hn : n ≤ 9223372036854775807) :
    Calls Tryz.prog 47 #[.slice A n c, .int .i64 a, .int .i64 x] w fun e w' => e = .returned (.tuple #[.int .u64 (loadU l a x), .int .i64 (loadE n a x)]) ∧ Below w.heap.size w w' := by
  have hlen := hl.1
  subst hlen
  rcases load_cases l a x with ⟨k, y, rfl, rfl, h1, h2, h3, h4, e1, e2⟩ | ⟨e1, e2, e3⟩
  · rw [e1, e2]
    have HL := Lib.hid hl
    have HW := Lib.hid h1
    have H2 := Lib.hid h2
    clear hl e1 e2 h1
    go_enter Tryz.func47, Tryz.ntmps47
    go_wp2_with fail
    refine (within_yes A l.length c k y 86 #[.pointer (some ⟨w.heap.size, 0, none⟩)] _ (fun e w' => e = .returned (.int .i64 0) ∧ Blk w' w.heap.size 22 #[.int .u64 (leVal ((l.drop k).take y))] ∧ Fr (fun k => k = w.heap.size) (w.alloc (.cells #[.int .u64 0] 22)) w') HW.out H2.out hc hn Tryz.call86
      (loadc_spec _ y _ w.heap.size _ _ (isb_part (HL.out.alloc _) H2.out) h4 (Blk.new w _ _) (fun ad h => ?_))).mono ?_
    · obtain ⟨a', h', e⟩ := map_block h
      obtain ⟨b', off', e', hb'⟩ := HL.out.some_ bc_len (by omega) (by have := H2.out; omega)
      rw [h'] at e'
      injection e' with e'
      subst e'
      show ad.block ≠ w.heap.size
      rw [e]
      exact Nat.ne_of_lt hb'
    · rintro e w2 ⟨rfl, hB, hf⟩
      have u0 : w2.cell? ⟨w.heap.size, 0, none⟩ = some (.int .u64 (leVal ((l.drop k).take y))) := hB.cell 0
      have f0 := hB.frozen 0
      have HB := Lib.hid hB
      have HF := Lib.hid hf
      clear hB hf
      go_wp2
      refine bodyPost_ret (v := .tuple #[.int .u64 (leVal ((l.drop k).take y)), .int .i64 0]) (by simp [results, Tryz.results47, go_sem, u0]) rfl ⟨rfl, ?_⟩
      refine below_fr ((Below.refl _ _).alloc (Nat.le_refl _) _) (Fr.setCell (S := fun k => k = w.heap.size) HF.out (fun _ => rfl) _) ?_
      rintro k' rfl
      exact Nat.le_refl _
  · rw [e2]
    have HE := Lib.hid e1
    clear hl e1 e2 e3
    go_enter Tryz.func47, Tryz.ntmps47
    go_wp2_with fail
    refine (within_no A l.length c a x _ _ HE.out hn).mono ?_
    rintro e w' ⟨rfl, rfl⟩
    go_wp2
    refine bodyPost_ret (v := .tuple #[.int .u64 0, .int .i64 (loadE l.length a x)]) (by simp [results, Tryz.results47, go_sem]) rfl ⟨rfl, ?_⟩
    exact (Below.refl _ _).alloc (Nat.le_refl _) _

end Go.Proofs.YtfoifdoaleaekaaGreat

namespace Go.Proofs.YtfoifdoaleaekaaGreat
open Go.RowKit Go.Acc
def tCells : Array Value := (tRows.flatMap fun r => [Value.int .i64 r.1, .int .i64 r.2.1, .int .i64 r.2.2]).toArray
def tZero : Array Value := Array.replicate 111 (Value.int .i64 0)
theorem tinfo : (Tryz.prog.info? 136).map (fun i => (i.zero, i.size)) = some (some (Value.agg tZero), 111) := by kernel_rfl
theorem upon_skip_of {P : Program} {o : Oper} {a : Act} {next : Act → World → Prop} {Q : Exit → Act → World → Prop} {r : Result Unit} {w' : World} (h : r = .ok () w') (hk : next (a.put o.dst undef) w') :
    o.upon P a next Q (r.andThen fun _ w' => .ok .skip w') := by subst h; exact hk
set_option maxRecDepth 100000 in
set_option maxHeartbeats 1000000 in
theorem tkinds_spec (w : World) : Calls Tryz.prog 87 #[] w fun e w' => e = .returned (.agg tCells) ∧ Below w.heap.size w w' := by
  have hz := (zero_of_info tinfo).1
  have hsz : tZero.size = 111 := rfl
  go_enter Tryz.func87, Tryz.ntmps87
  go_wp2
  refine upon_skip_of (w' := w.alloc (.cells tCells 136)) ?_ ?_
  · refine Eq.trans ?_ (run_storeCells_new (P := Tryz.prog) w 136 tZero tCells (by kernel_rfl) (by kernel_rfl) (by kernel_rfl))
    kernel_rfl
  · have hld := run_loadVar_new (P := Tryz.prog) w 136 tCells 37 87 Tryz.underlying136 (by kernel_rfl)
    clear hz hsz
    go_wp2
    refine bodyPost_ret (v := .agg tCells) ?_ rfl ⟨rfl, (Below.refl _ _).alloc (Nat.le_refl _) _⟩
    refine results_cell_row (fn := Tryz.f87) rfl _ _ w.heap.size 136 tCells (0, 0) _ ?_ (heap_alloc_last w _) Tryz.underlying136 rfl (by kernel_rfl)
    rfl
end Go.Proofs.YtfoifdoaleaekaaGreat

namespace Go.Proofs.YtfoifdoaleaekaaGreat
open Go.RowKit Go.Acc
def rowV (r : Int × Int × Int) : Value := .agg #[.int .i64 r.1, .int .i64 r.2.1, .int .i64 r.2.2]
theorem tindex {t : Int} (ht : isT t = true) : ∀ w, (Instr.index 136 (.agg tCells) (.int .i64 t)).run Tryz.prog w = .ok (rowV (tRow t)) w := by
  have h : ∀ n : Fin 37, ∀ w, (Instr.index 136 (.agg tCells) (.int .i64 ((n.val : Nat) : Int))).run Tryz.prog w = .ok (rowV (tRow ((n.val : Nat) : Int))) w := by
    intro n
    rcases n with ⟨n, hn⟩
    have : n = 0 ∨ n = 1 ∨ n = 2 ∨ n = 3 ∨ n = 4 ∨ n = 5 ∨ n = 6 ∨ n = 7 ∨ n = 8 ∨ n = 9 ∨ n = 10 ∨ n = 11 ∨ n = 12 ∨ n = 13 ∨ n = 14 ∨ n = 15 ∨ n = 16 ∨ n = 17 ∨ n = 18 ∨ n = 19 ∨ n = 20 ∨ n = 21 ∨ n = 22 ∨ n = 23 ∨ n = 24 ∨ n = 25 ∨ n = 26 ∨ n = 27 ∨ n = 28 ∨ n = 29 ∨ n = 30 ∨ n = 31 ∨ n = 32 ∨ n = 33 ∨ n = 34 ∨ n = 35 ∨ n = 36 := by omega
    rcases this with rfl | rfl | rfl | rfl | rfl | rfl | rfl | rfl | rfl | rfl | rfl | rfl | rfl | rfl | rfl | rfl | rfl | rfl | rfl | rfl | rfl | rfl | rfl | rfl | rfl | rfl | rfl | rfl | rfl | rfl | rfl | rfl | rfl | rfl | rfl | rfl | rfl
    all_goals
      intro w
      kernel_rfl
  exact t37_all (p := fun t => ∀ w, (Instr.index 136 (.agg tCells) (.int .i64 t)).run Tryz.prog w = .ok (rowV (tRow t)) w) h ht
set_option maxHeartbeats 400000 in
theorem tof_spec (t : Int) (w : World) : Calls Tryz.prog 48 #[.int .i64 t] w fun e w' => e = .returned (rowV (tRow t)) ∧ Below w.heap.size w w' := by
  cases ht : isT t with
  | true =>
    have hb := isT_iff.1 ht
    have hb0 := hb.1
    have hb1 := hb.2
    have hidx := tindex ht
    have HR := Lib.hid (show True from trivial)
    obtain ⟨r, hr⟩ : ∃ r, tRow t = r := ⟨_, rfl⟩
    obtain ⟨r0, r1, r2⟩ := r
    rw [hr] at hidx ⊢
    unfold rowV at hidx ⊢
    clear hb hr ht
    go_enter Tryz.func48, Tryz.ntmps48
    go_wp2_with fail
    go_at_call 87
    refine (tkinds_spec _).mono ?_
    rintro e w1 ⟨rfl, hb⟩
    have HK := Lib.hid ((Blk.new w 87 #[.int .i64 0, .int .i64 0, .int .i64 0]).pure hb)
    have HB := Lib.hid (pure_trans ((Below.refl w.heap.size w).alloc (Nat.le_refl _) _) hb)
    have c0 := (HK.out.cell 0).trans (show _ = some (Value.int .i64 0) from rfl)
    have c1 := (HK.out.cell 1).trans (show _ = some (Value.int .i64 0) from rfl)
    have c2 := (HK.out.cell 2).trans (show _ = some (Value.int .i64 0) from rfl)
    have f0 := HK.out.frozen 0
    have f1 := HK.out.frozen 1
    have f2 := HK.out.frozen 2
    clear hb
    go_wp2
    refine bodyPost_ret (v := .agg #[.int .i64 r0, .int .i64 r1, .int .i64 r2]) (by simp [results, Tryz.results48, go_sem, c0, c1, c2]) rfl ⟨rfl, ?_⟩
    exact ((HB.out.setCell (Nat.le_refl _) _).setCell (Nat.le_refl _) _).setCell (Nat.le_refl _) _
  | false =>
    rw [tRow_no ht]
    have hb : t < 0 ∨ 37 ≤ t := by
      have : ¬ (0 ≤ t ∧ t < 37) := by rw [← isT_iff, ht]; simp
      omega
    clear ht
    rcases hb with hb | hb
    · go_enter Tryz.func48, Tryz.ntmps48
      go_wp2
      refine bodyPost_ret (v := rowV (0, 0, 0)) (by simp [results, Tryz.results48, go_sem, rowV]) rfl ⟨rfl, ?_⟩
      exact (Below.refl _ _).alloc (Nat.le_refl _) _
    · have h0 : ¬ t < 0 := by omega
      go_enter Tryz.func48, Tryz.ntmps48
      go_wp2
      refine bodyPost_ret (v := rowV (0, 0, 0)) (by simp [results, Tryz.results48, go_sem, rowV]) rfl ⟨rfl, ?_⟩
      exact (Below.refl _ _).alloc (Nat.le_refl _) _

theorem tfield0 (a b c : Int) (w : World) : (Instr.field 87 (.agg #[.int .i64 a, .int .i64 b, .int .i64 c]) 0).run Tryz.prog w = .ok (.int .i64 a) w := by kernel_rfl
theorem tfield1 (a b c : Int) (w : World) : (Instr.field 87 (.agg #[.int .i64 a, .int .i64 b, .int .i64 c]) 1).run Tryz.prog w = .ok (.int .i64 b) w := by kernel_rfl
theorem tfield2 (a b c : Int) (w : World) : (Instr.field 87 (.agg #[.int .i64 a, .int .i64 b, .int .i64 c]) 2).run Tryz.prog w = .ok (.int .i64 c) w := by kernel_rfl
theorem tof_spec2 (t r0 r1 r2 : Int) (w : World) (h : tRow t = (r0, r1, r2)) : Calls Tryz.prog 48 #[.int .i64 t] w fun e w' => e = .returned (.agg #[.int .i64 r0, .int .i64 r1, .int .i64 r2]) ∧ Below w.heap.size w w' := by
  have := tof_spec t w
  rw [h] at this
  exact this
set_option maxRecDepth 100000 in
set_option maxHeartbeats 400000 in
theorem legal_spec (t : Int) (w : World) : Calls Tryz.prog 44 #[.int .i64 t] w fun e w' => e = .returned (.bool (legalT t)) ∧ Below w.heap.size w w' := by
  unfold legalT
  obtain ⟨r, hr⟩ : ∃ r, tRow t = r := ⟨_, rfl⟩
  obtain ⟨r0, r1, r2⟩ := r
  have HR := Lib.hid hr
  rw [hr]
  clear hr
  have hf0 := tfield0
  have hf1 := tfield1
  have hf2 := tfield2
  go_enter Tryz.func44, Tryz.ntmps44
  go_wp2_with fail
  go_at_call 48
  refine (tof_spec2 t r0 r1 r2 _ HR.out).mono ?_
  rintro e w1 ⟨rfl, hb⟩
  have HB := Lib.hid hb
  clear hb
  go_wp2
  go_ret
  exact ⟨rfl, HB.out⟩
set_option maxRecDepth 100000 in
set_option maxHeartbeats 400000 in
theorem inline_spec (t : Int) (w : World) : Calls Tryz.prog 17 #[.int .i64 t] w fun e w' => e = .returned (.bool (inlineT t)) ∧ Below w.heap.size w w' := by
  unfold inlineT
  obtain ⟨r, hr⟩ : ∃ r, tRow t = r := ⟨_, rfl⟩
  obtain ⟨r0, r1, r2⟩ := r
  have HR := Lib.hid hr
  rw [hr]
  clear hr
  have hf0 := tfield0
  have hf1 := tfield1
  have hf2 := tfield2
  go_enter Tryz.func17, Tryz.ntmps17
  go_wp2_with fail
  go_at_call 48
  refine (tof_spec2 t r0 r1 r2 _ HR.out).mono ?_
  rintro e w1 ⟨rfl, hb⟩
  have HB := Lib.hid hb
  clear hb
  go_wp2
  go_ret
  exact ⟨rfl, HB.out⟩
set_option maxHeartbeats 400000 in
theorem elem_spec (t : Int) (w : World) : Calls Tryz.prog 90 #[.int .i64 t] w fun e w' => e = .returned (.tuple #[.int .i64 (elemT t), .int .i64 (manyT t), .bool (vecT t)]) ∧ Below w.heap.size w w' := by
  unfold elemT manyT vecT
  obtain ⟨r, hr⟩ : ∃ r, tRow t = r := ⟨_, rfl⟩
  obtain ⟨r0, r1, r2⟩ := r
  have HR := Lib.hid hr
  rw [hr]
  clear hr
  have hf0 := tfield0
  have hf1 := tfield1
  have hf2 := tfield2
  go_enter Tryz.func90, Tryz.ntmps90
  go_wp2_with fail
  go_at_call 48
  refine (tof_spec2 t r0 r1 r2 _ HR.out).mono ?_
  rintro e w1 ⟨rfl, hb⟩
  have HB := Lib.hid hb
  clear hb
  go_wp2_with fail
  go_quiet (fail)
  go_wp2
  go_ret3
  exact ⟨rfl, below_drewN (HB.out.alloc HB.out.size _) _⟩
theorem pow_wrap (n : Nat) : wrap64 ((2 : Int) ^ (n % 4)) = 2 ^ (n % 4) := by
  have : n % 4 = 0 ∨ n % 4 = 1 ∨ n % 4 = 2 ∨ n % 4 = 3 := by omega
  rcases this with e | e | e | e <;> rw [e] <;> unfold wrap64 <;> simp only [Int.reducePow] <;> omega
set_option maxHeartbeats 400000 in
theorem unpack_spec (c : UInt8) (w : World) : Calls Tryz.prog 42 #[.int .u8 (c.toNat : Int)] w fun e w' => e = .returned (.tuple #[.int .i64 (unT c), .int .i64 (unW c), .int .i64 (unE c)]) ∧ Below w.heap.size w w' := by
  have hc := c.toNat_lt
  have hq : IntKind.u8.wrap ((c.toNat : Int) / 4) = (c.toNat : Int) / 4 := by rw [IntKind.wrap_u8]; omega
  cases hl : legalT ((c.toNat : Int) / 4) with
  | true =>
    have HL := Lib.hid hl
    have h1 : unT c = (c.toNat : Int) / 4 := by unfold unT; rw [if_pos hl]
    have h2 : unW c = 2 ^ (c.toNat % 4) := by unfold unW; rw [if_pos hl]
    have h3 : unE c = 0 := by unfold unE; rw [if_pos hl]
    rw [h1, h2, h3]
    clear hl h1 h2 h3
    go_enter Tryz.func42, Tryz.ntmps42
    go_wp2_with fail
    go_at_call 44
    refine (legal_spec _ _).mono ?_
    rw [HL.out]
    rintro e w1 ⟨rfl, hb⟩
    have HB := Lib.hid hb
    clear hb
    go_wp2
    rw [pow_wrap]
    go_ret3
    exact ⟨rfl, HB.out⟩
  | false =>
    have HL := Lib.hid hl
    have h1 : unT c = 0 := by unfold unT; rw [hl]; rfl
    have h2 : unW c = 0 := by unfold unW; rw [hl]; rfl
    have h3 : unE c = 20 := by unfold unE; rw [hl]; rfl
    rw [h1, h2, h3]
    clear hl h1 h2 h3
    go_enter Tryz.func42, Tryz.ntmps42
    go_wp2_with fail
    go_at_call 44
    refine (legal_spec _ _).mono ?_
    rw [HL.out]
    rintro e w1 ⟨rfl, hb⟩
    have HB := Lib.hid hb
    clear hb
    go_wp2
    go_ret3
    exact ⟨rfl, HB.out⟩

end Go.Proofs.YtfoifdoaleaekaaGreat

namespace Go.Proofs.YtfoifdoaleaekaaGreat
open Go.RowKit Go.Acc

theorem ret_t1 {k : IntKind} {a b : Int} {v : Value} (h : a = b) : Ending.returned (.tuple #[.int k a, v]) = .returned (.tuple #[.int k b, v]) := by rw [h]
def sx (w u : Nat) : Int := if u < 2 ^ (8 * w - 1) then u else (u : Int) - 2 ^ (8 * w)
def loadI (l : List UInt8) (a w : Int) : Int := if isW w = true ∧ 0 ≤ a ∧ a + w ≤ l.length then sx w.toNat (loadU l a w) else 0
theorem loadU_lt (l : List UInt8) (a : Int) (x : Nat) : loadU l a x < 2 ^ (8 * x) := by
  unfold loadU
  split
  · refine Nat.lt_of_lt_of_le (leVal_lt _) (Nat.pow_le_pow_right (by omega) ?_)
    have := List.length_take_le x (l.drop a.toNat)
    simp only [Int.toNat_natCast]
    omega
  · exact Nat.two_pow_pos _
theorem wrap64_in (n : Int) (h : -9223372036854775808 ≤ n ∧ n ≤ 9223372036854775807) : wrap64 n = n := by unfold wrap64; omega

theorem load_spec2 (A : Option Addr) (n c : Nat) (a x : Int) (l : List UInt8) (w : World) (er : Int) (u : Nat) (hl : IsB w A n l) (hc : n ≤ c) (hn : n ≤ 9223372036854775807) (h1 : loadE n a x = er) (h2 : loadU l a x = u) :
    Calls Tryz.prog 47 #[.slice A n c, .int .i64 a, .int .i64 x] w fun e w' => e = .returned (.tuple #[.int .u64 u, .int .i64 er]) ∧ Below w.heap.size w w' := by
  subst h1 h2
  exact load_spec A n c a x l w hl hc hn
set_option maxRecDepth 100000 in
set_option maxHeartbeats 1000000 in
theorem loadi_spec (A : Option Addr) (n c : Nat) (a x : Int) (l : List UInt8) (w : World) (hl : IsB w A n l) (hc : n ≤ c) (hn : n ≤ 9223372036854775807) :
    Calls Tryz.prog 205 #[.slice A n c, .int .i64 a, .int .i64 x] w fun e w' => e = .returned (.tuple #[.int .i64 (loadI l a x), .int .i64 (loadE n a x)]) ∧ Below w.heap.size w w' := by
  have hlen := hl.1
  subst hlen
  rcases load_cases l a x with ⟨k, y, rfl, rfl, h1, h2, h3, h4, e1, e2⟩ | ⟨e1, e2, e3⟩
  · have e3 : loadI l k y = sx y (loadU l k y) := by unfold loadI; rw [if_pos ⟨h1, by omega, by omega⟩]; rfl
    rw [e1, e3]
    have hb := loadU_lt l k y
    generalize hu : loadU l k y = u at hb
    have HU := Lib.hid hu
    clear hu
    have HL := Lib.hid hl
    have E1 := Lib.hid e1
    have h1' := isW_iff.1 h1
    clear hl e1 e2 e3
    have hy : y = 1 ∨ y = 2 ∨ y = 4 ∨ y = 8 := by omega
    clear h1 h1'
    rcases hy with rfl | rfl | rfl | rfl
    all_goals
      go_enter Tryz.func205, Tryz.ntmps205
      go_wp2_with (go_at_call 47; refine (load_spec2 A _ c _ _ l _ 0 u HL.out hc hn E1.out HU.out).mono ?_; rintro e w1 ⟨rfl, hb1⟩)
      go_ret2
      refine ⟨ret_t1 ?_, hb1⟩
      unfold sx wrap64
      simp only [Nat.reduceMul, Nat.reduceSub, Nat.reducePow] at hb ⊢
      split <;> omega
  · have e4 : loadI l a x = 0 := if_neg e3
    have hne : (loadE l.length a x != 0) = true := by simpa using e1
    rw [e4]
    have HL := Lib.hid hl
    have HU := Lib.hid e2
    clear hl e1 e2 e3 e4
    go_enter Tryz.func205, Tryz.ntmps205
    go_wp2_with (go_at_call 47; refine (load_spec2 A _ c _ _ l _ _ 0 HL.out hc hn rfl HU.out).mono ?_; rintro e w1 ⟨rfl, hb1⟩)
    go_ret2
    exact ⟨rfl, hb1⟩

end Go.Proofs.YtfoifdoaleaekaaGreat
