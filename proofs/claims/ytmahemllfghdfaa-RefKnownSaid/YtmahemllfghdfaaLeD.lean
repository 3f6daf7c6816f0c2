/-
  Package le and its reference: copies of bytes, comparison of bytes, the digits of the reference.
-/
import Derived.Test.YtmahemllfghdfaaLeC
namespace Go.Proofs.Ytmahemllfghdfaa
open Go.RowKit Go.Acc

theorem info_b : (Try.prog.info? 5).map (fun i => (i.zero, i.size, i.bytes)) = some (some (.int .u8 0), 1, 1) := by kernel_rfl

def CopiedB (w : World) (m : List UInt8) (e : Ending) (w' : World) : Prop :=
  ∃ A n c, e = .returned (.slice A n c) ∧ OwnB w' w.heap.size A n c m ∧ Below w.heap.size w w'
theorem copiedb_post {w w1 w' : World} {A : Option Addr} {n c : Nat} {l m : List UInt8} (h : OwnB w' w.heap.size A n c l) (hl : l = m) (h1 : Below w.heap.size w w1) {S : Nat → Prop} (hg : Fr S w1 w') (hS : ∀ k, k < w.heap.size → ¬ S k) : CopiedB w m (.returned (.slice A n c)) w' := by
  subst hl
  exact ⟨A, n, c, rfl, h, h1.trans (hg.belowB hS h1.size)⟩
set_option maxHeartbeats 400000 in
theorem copyb_spec (A : Option Addr) (n c : Nat) (l : List UInt8) (w : World) (h : IsB w A n l) (hl : n ≤ 1099511627776) :
    Calls Try.prog 5 #[.slice A n c] w (CopiedB w l) := by
  have HR := Lib.hid h
  clear h
  go_enter Try.func5, Try.ntmps5
  go_wp2_with (at_builtin; refine wpl_app _ rfl (.tmp 4) (.tmp 5) _ rfl 5 _ 1 1 Try.underlying25 info_b rfl (by omega) bc_len bc_one _ _ _ _ _ rfl (Own.nil w w.heap.size) _ _ _ _ rfl HR.out (by omega) (Nat.le_refl _) ?_; intro A1 c1 w1 hown1 hfr1 hat1)
  go_ret
  exact copiedb_post (by simpa using hown1) rfl (Below.refl _ _) hfr1 (by rintro k hk ⟨ad, h, _⟩; cases h)
/-- The bytes of a slice as a string. -/
theorem run_str {w : World} {A : Option Addr} {n c : Nat} {l : List UInt8} (h : IsB w A n l) : (convert 25 9 (.slice A n c)).run Try.prog w = .ok (.string ⟨l.toArray⟩) w := by
  rcases Nat.eq_zero_or_pos n with h0 | h0
  · subst h0
    obtain rfl : l = [] := List.eq_nil_of_length_eq_zero h.1
    rw [run_convert_bytes_string w 25 9 5 A 0 c Try.underlying25 Try.underlying5 Try.underlying9]
    cases A with
    | none => simp [Conv.bytesToString]; rfl
    | some a =>
      have := run_bytesToString (P := Try.prog) w a 0 c [] (by simp [loadCells, loadCellsFrom])
      rw [this]; rfl
  · obtain ⟨b, off, rfl, _⟩ := h.some_ bc_len (by omega) h0
    have := run_convert_bytes_arg (P := Try.prog) w 25 5 Try.underlying25 Try.underlying5 b off n c (l.map fun x => (x.toNat : Int)) (by simp [h.1]) (fun i hi => by
      obtain ⟨b', off', e, hk, hc⟩ := isb_at h hi
      injection e with e; injection e with e1 e2; subst e1 e2
      rw [hc]
      simp [List.getD, List.getElem?_eq_getElem hk]) 9 Try.underlying9
    have e0 : ∀ m : List UInt8, (m.map fun x : UInt8 => (x.toNat : Int)).map (fun n => UInt8.ofNat n.toNat) = m := by
      intro m
      induction m with
      | nil => rfl
      | cons x m ih => rw [List.map_cons, List.map_cons, ih, Int.toNat_natCast, UInt8.ofNat_toNat]
    have e : strOfNums (l.map fun x : UInt8 => (x.toNat : Int)) = ⟨l.toArray⟩ := by
      unfold strOfNums
      rw [e0]
    rw [this, e]

def eqB (l m : List UInt8) : Bool := decide (l = m)
theorem eqB_self (l : List UInt8) : eqB l l = true := decide_eq_true rfl
set_option maxHeartbeats 400000 in
theorem eqb_spec (A B : Option Addr) (n n' c d : Nat) (l m : List UInt8) (w : World) (ha : IsB w A n l) (hb : IsB w B n' m) :
    Calls Try.prog 26 #[.slice A n c, .slice B n' d] w fun e w' => e = .returned (.bool (eqB l m)) ∧ w = w' := by
  have h1 := run_str (c := c) ha
  have h2 := run_str (c := d) hb
  have H := Lib.hid (show (l == m) = eqB l m by unfold eqB; rw [Bool.eq_iff_iff]; simp)
  clear ha hb
  go_enter Try.func26, Try.ntmps26
  go_wp2
  go_ret
  exact ⟨ret_bool H.out, rfl⟩

theorem isb_new (w : World) (v : Int) (x : UInt8) (h : v = (x.toNat : Int)) : IsB (w.alloc (.cells #[.int .u8 v] 5)) (some ⟨w.heap.size, 0, none⟩) 1 [x] := by
  subst h
  refine ⟨rfl, fun j u hj => ?_⟩
  have e : j = 0 := by
    have := (List.getElem?_eq_some_iff.1 hj).1
    simp [bc] at this; omega
  subst e
  have hu : u = .int .u8 (x.toNat : Int) := by simpa [bc] using hj.symm
  subst hu
  exact ⟨_, _, rfl, (Blk.new w 5 _).cell 0⟩
end Go.Proofs.Ytmahemllfghdfaa
