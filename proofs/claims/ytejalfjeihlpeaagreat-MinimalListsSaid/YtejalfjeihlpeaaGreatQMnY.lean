/-
  Package accordionlaw30: the document of a vector of unsigned numbers.
-/
import Derived.Test.YtejalfjeihlpeaaGreatQMnW
namespace Go.Proofs.YtejalfjeihlpeaaGreat
open Go.RowKit Go.Acc
/-- A slice of unsigned numbers. -/
def uc (u : Nat) : List Value := [.int .u64 (u : Int)]
theorem uc_len (u : Nat) : (uc u).length = 1 := rfl
abbrev IsU := Is uc
theorem isu_at {w : World} {A : Option Addr} {n : Nat} {l : List Nat} (h : IsU w A n l) {k : Nat} (hk : k < n) :
    ∃ b off, A = some ⟨b, off, none⟩ ∧ ∃ hk : k < l.length, w.cell? ⟨b, off + k, none⟩ = some (.int .u64 (l[k] : Int)) := by
  obtain ⟨b, off, e, hk', hc⟩ := h.at_ uc_len (by omega) hk
  have := hc 0 (by omega)
  rw [Nat.mul_one, Nat.add_zero] at this
  exact ⟨b, off, e, hk', this⟩
/-- The bytes so far: the length and k numbers. -/
def vecB (W : Nat) (ls : List Nat) (k : Nat) : List UInt8 := leBytes W ls.length ++ (ls.take k).flatMap (leBytes W)
theorem vecB_step {W : Nat} {ls : List Nat} {k : Nat} (h : k < ls.length) : vecB W ls k ++ leBytes W ls[k] = vecB W ls (k + 1) := by
  unfold vecB
  rw [List.take_add_one, List.getElem?_eq_getElem h, Option.toList_some, List.flatMap_append, List.flatMap_cons, List.flatMap_nil, List.append_nil, List.append_assoc]
theorem vecB_len {W : Nat} {ls : List Nat} {k : Nat} (h : k ≤ ls.length) : (vecB W ls k).length = W + k * W := by
  unfold vecB
  rw [List.length_append, leBytes_length, flat_len, List.length_take, Nat.min_eq_left h]
/-- What the first loop keeps: the bytes written, if all has been well. -/
def VecR (W : Nat) (ls : List Nat) (k : Nat) (fi : Bool) (m : List UInt8) : Prop := fi = true → m = vecB W ls k ∧ ∀ u ∈ ls.take k, u < 2 ^ (8 * W)
theorem putE_no0 {W : Nat} (h : isW (W : Int) = true) : putE W false = 10 := by unfold putE; rw [if_pos h]; rfl
theorem vecR_step {W : Nat} {ls : List Nat} {k : Nat} {fi : Bool} {m : List UInt8} (hW : isW (W : Int) = true) (h : VecR W ls k fi m) (hk : k < ls.length) (hu : ((ls[k] : Nat) : Int) < 18446744073709551616) :
    VecR W ls (k + 1) (fi && (putE W (fitsU W ls[k]) == 0)) (putB m W ls[k] (fitsU W ls[k])) := by
  intro hf
  obtain ⟨h1, h2⟩ := Bool.and_eq_true_iff.1 hf
  obtain ⟨g1, g2⟩ := h h1
  cases hfi : fitsU W ls[k] with
  | false =>
    rw [hfi, putE_no0 hW] at h2
    cases h2
  | true =>
    refine ⟨?_, fun u hu2 => ?_⟩
    · rw [putB_ok hW rfl, g1, vecB_step hk]
    · rw [List.take_add_one, List.getElem?_eq_getElem hk] at hu2
      rcases List.mem_append.1 hu2 with h3 | h3
      · exact g2 u h3
      · simp only [Option.toList_some, List.mem_singleton] at h3
        subst h3
        exact fits_lt hfi hu
theorem putB_le {l : List UInt8} {W u : Nat} {b : Bool} (hW : isW (W : Int) = true) : (putB l W u b).length ≤ l.length + 8 := by
  have h8 := isW_iff.1 hW
  unfold putB
  split
  · rw [List.length_append, leBytes_length]
    omega
  · simp
theorem code_of {W : Nat} (h : isW (W : Int) = true) : ∃ C : Nat, codeW W = C ∧ codeE W = 0 ∧ C ≤ 3 ∧ W = 2 ^ C := by
  have h8 : W = 1 ∨ W = 2 ∨ W = 4 ∨ W = 8 := by have := isW_iff.1 h; omega
  rcases h8 with rfl | rfl | rfl | rfl
  · exact ⟨0, by decide, by decide, by decide, by decide⟩
  · exact ⟨1, by decide, by decide, by decide, by decide⟩
  · exact ⟨2, by decide, by decide, by decide, by decide⟩
  · exact ⟨3, by decide, by decide, by decide, by decide⟩
theorem tag_of {T : UInt8} {t C : Nat} (hT : T.toNat = 4 * t + C) (hC : C ≤ 3) (ht : t = 2 ∨ t = 10 ∨ t = 12) : unE T = 0 ∧ unT T = t ∧ unW T = ((2 ^ C : Nat) : Int) := by
  have e1 : ((T.toNat : Nat) : Int) / 4 = t := by omega
  have e2 : T.toNat % 4 = C := by omega
  have hl : legalT (t : Int) = true := by rcases ht with rfl | rfl | rfl <;> decide
  unfold unE unT unW
  rw [e1, e2, hl]
  refine ⟨rfl, rfl, ?_⟩
  rw [if_pos rfl]
  simp
theorem vec_ok {W V n K j C : Nat} {ls : List Nat} {kd : Int} {T TG : UInt8} (hW : isW (W : Int) = true) (hV : V = 1 ∨ V = 2) (hls : ls.length = n) (hn : n ≤ 100) (hl : ∀ u ∈ ls, u < 2 ^ (8 * W)) (hC : C ≤ 3) (hWC : W = 2 ^ C)
    (hk : (K = 0 ∧ kd = 12 ∧ TG.toNat = 48 + C) ∨ (K = n ∧ kd = 10 ∧ TG.toNat = 40 + C)) (hT : T.toNat = 8 + C) (hj : j ≤ 1) (hm : (W + (n * W + K + j)) % V = 0) (ho : fitsU V (n * W + K + j) = true) (h2 : V = 2 → 255 < n * W + K + j) :
    (VecD.mk W ls (List.replicate K T) (List.replicate j 0) V TG kd).Ok ∧ (VecD.mk W ls (List.replicate K T) (List.replicate j 0) V TG kd).off = n * W + K + j := by
  have hoff : (VecD.mk W ls (List.replicate K T) (List.replicate j 0) V TG kd).off = n * W + K + j := by
    unfold VecD.off
    simp only [List.length_replicate, hls]
  have hVW : isW (V : Int) = true := by rcases hV with rfl | rfl <;> decide
  have hu : n * W + K + j < 2 ^ (8 * V) := by
    refine fits_lt ho ?_
    have h8 := isW_iff.1 hW
    have h9 : n * W ≤ 100 * 8 := Nat.mul_le_mul hn (by omega)
    have h10 : K ≤ 100 := by omega
    omega
  refine ⟨⟨hW, hVW, ?_, ?_, ?_, ?_, by rw [hls]; exact hn, by simp; omega, hl, by rw [hoff]; exact hm, by rw [hoff]; exact hu, ?_⟩, hoff⟩
  · rcases hk with ⟨_, _, h⟩ | ⟨_, _, h⟩
    · exact (tag_of (t := 12) (C := C) h hC (by omega)).1
    · exact (tag_of (t := 10) (C := C) h hC (by omega)).1
  · rcases hk with ⟨_, e, h⟩ | ⟨_, e, h⟩
    · simp only [e]; exact (tag_of (t := 12) (C := C) h hC (by omega)).2.1
    · simp only [e]; exact (tag_of (t := 10) (C := C) h hC (by omega)).2.1
  · rcases hk with ⟨_, e, h⟩ | ⟨_, e, h⟩
    · simp only [hWC]; exact (tag_of (t := 12) (C := C) h hC (by omega)).2.2
    · simp only [hWC]; exact (tag_of (t := 10) (C := C) h hC (by omega)).2.2
  · rcases hk with ⟨e, e2, _⟩ | ⟨e, e2, _⟩
    · exact .inl ⟨e2, by rw [e]; rfl⟩
    · refine .inr ⟨e2, by simp only [List.length_replicate]; omega, fun b hb => ?_⟩
      have hb := (List.mem_replicate.1 hb).2
      subst hb
      have := tag_of (t := 2) (C := C) hT hC (by omega)
      exact ⟨this.1, this.2.1⟩
  · intro h1
    rw [hoff]
    simp only at h1 ⊢
    have : V = 2 := by omega
    exact ⟨h2 this, this⟩
end Go.Proofs.YtejalfjeihlpeaaGreat
