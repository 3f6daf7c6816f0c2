/-
  Build of a number: the document, and what the readers find in it.
-/
import Derived.Test.YtjhigmgkmmjlfaaGreatQShA
namespace Go.Proofs.YtjhigmgkmmjlfaaGreat
open Go.RowKit Go.Acc
def numNeg (k n : Int) : Bool := decide ((k = 3 ∨ k = 8) ∧ n < 0)
def numMag (k n : Int) (u : Nat) : Nat := if k = 1 then 0 else if k = 2 ∨ k = 3 ∨ k = 8 then n.natAbs else u
theorem num_all {k n : Int} {u : Nat} {s : List UInt8} (h : NumV k n u s) (hn : -9223372036854775808 ≤ n ∧ n ≤ 9223372036854775807) (hu : u < 18446744073709551616) :
    ∃ b v y, (Bd.new.leaf 0 k n u s).b = b ∧ (Bd.new.leaf 0 k n u s).s = [v] ∧ FinOk b v y ∧ ∀ x : List UInt8, x.length % 8 = 0 → NumF (x ++ docB b v y) k (numNeg k n) (numMag k n u) := by
  have hrd : ∀ (t : Int) (w m : Nat), isW (w : Int) = true → (t = 1 ∨ t = 6) → bWidthI n ≤ w → m % 2 ^ (8 * w) = bits n % 2 ^ (8 * w) → ∀ (l : List UInt8) (a : Int), loadU l a w = m % 2 ^ (8 * w) → 0 ≤ a → a + w ≤ l.length → rdN l t a w = decide (n < 0) ∧ rdU l t a w = n.natAbs := by
    intro t w m hw ht hb hm l a hl h0 h1
    have e : loadI l a w = n := by
      unfold loadI
      rw [if_pos ⟨hw, h0, h1⟩, hl, hm, show (w : Int).toNat = w from rfl]
      exact sx_of hw hb hn
    refine ⟨?_, ?_⟩
    · unfold rdN
      rw [e]
      exact decide_eq_decide.2 ⟨fun h => h.2, fun h => ⟨ht, h⟩⟩
    · unfold rdU
      rw [if_neg (by omega), if_neg (by omega), if_pos ht, e]
  have hru : ∀ (t : Int) (w m : Nat), isW (w : Int) = true → (t = 2 ∨ t = 7) → bWidth u ≤ w → m % 2 ^ (8 * w) = u % 2 ^ (8 * w) → ∀ (l : List UInt8) (a : Int), loadU l a w = m % 2 ^ (8 * w) → 0 ≤ a → a + w ≤ l.length → rdN l t a w = false ∧ rdU l t a w = u := by
    intro t w m hw ht hb hm l a hl h0 h1
    refine ⟨?_, ?_⟩
    · unfold rdN
      exact decide_eq_false (by omega)
    · unfold rdU
      rw [if_neg (by omega), if_neg (by omega), if_neg (by omega), hl, hm]
      exact low_of hw hb hu
  rcases h with ⟨rfl, rfl, rfl, rfl⟩ | ⟨rfl, h2, rfl, rfl⟩ | ⟨rfl, rfl, rfl⟩ | ⟨rfl, rfl, rfl⟩ | ⟨rfl, rfl, rfl⟩ | ⟨rfl, rfl, rfl⟩
  · exact ⟨[], ⟨0, 1, 0⟩, 1, rfl, rfl, finok_inl (v := ⟨0, 1, 0⟩) (by decide) (by decide) (by decide), fun x hx => numf_inl (v := ⟨0, 1, 0⟩) hx (by decide) (by decide) (by decide) (by decide) (fun l a _ _ _ => ⟨by unfold rdN; exact decide_eq_false (by simp), rfl⟩)⟩
  · refine ⟨[], truthV n, 1, rfl, rfl, finok_inl (v := truthV n) (show inl 26 = true by decide) (show legalT ((26 : Nat) : Int) = true by decide) (show isW ((1 : Nat) : Int) = true by decide), fun x hx => numf_inl (v := truthV n) hx (show inl 26 = true by decide) (show legalT ((26 : Nat) : Int) = true by decide) (show isW ((1 : Nat) : Int) = true by decide) (show kindT ((26 : Nat) : Int) = 2 by decide) (fun l a hl _ _ => ⟨?_, ?_⟩)⟩
    · unfold rdN truthV numNeg
      rw [decide_eq_false (by simp), decide_eq_false (by simp)]
    · unfold rdU numMag
      rw [show ((truthV n).t : Int) = 26 from rfl, if_neg (by omega), if_pos rfl, hl]
      unfold truthV
      rcases h2 with rfl | rfl <;> rfl
  · exact ⟨[], numV n, bWidthI n, rfl, rfl, finok_inl (v := numV n) (show inl 1 = true by decide) (show legalT ((1 : Nat) : Int) = true by decide) (bWidthI_is n), fun x hx => numf_inl (v := numV n) hx (show inl 1 = true by decide) (show legalT ((1 : Nat) : Int) = true by decide) (bWidthI_is n) (show kindT ((1 : Nat) : Int) = 3 by decide)
      (fun l a hl h0 h1 => by
        obtain ⟨r1, r2⟩ := hrd 1 (bWidthI n) (bits n) (bWidthI_is n) (.inl rfl) (Nat.le_refl _) rfl l a hl h0 h1
        exact ⟨r1.trans (decide_eq_decide.2 ⟨fun h => ⟨.inl rfl, h⟩, fun h => h.2⟩), r2.trans (by unfold numMag; rw [if_neg (by omega), if_pos (by omega)])⟩)⟩
  · exact ⟨[], unsV u, bWidth u, rfl, rfl, finok_inl (v := unsV u) (show inl 2 = true by decide) (show legalT ((2 : Nat) : Int) = true by decide) (bWidth_is u), fun x hx => numf_inl (v := unsV u) hx (show inl 2 = true by decide) (show legalT ((2 : Nat) : Int) = true by decide) (bWidth_is u) (show kindT ((2 : Nat) : Int) = 4 by decide)
      (fun l a hl h0 h1 => by
        obtain ⟨r1, r2⟩ := hru 2 (bWidth u) u (bWidth_is u) (.inl rfl) (Nat.le_refl _) rfl l a hl h0 h1
        exact ⟨r1.trans (decide_eq_false (by omega)).symm, r2.trans (by unfold numMag; rw [if_neg (by omega), if_neg (by omega)])⟩)⟩
  · have e0 : alignB (bWidthI n) [] = [] := by unfold alignB padN; simp
    refine ⟨leBytes (bWidthI n) (bits n % 2 ^ (8 * bWidthI n)), ⟨6, bWidthI n, 0⟩, 1, ?_, ?_, (finok_off (by decide) (by decide) (bWidthI_is n)).1, fun x hx => numf_off hx (by decide) (by decide) (by decide) (bWidthI_is n) (by decide) ?_⟩
    · show alignB (bWidthI n) [] ++ leBytes (bWidthI n) (bits n % 2 ^ (8 * bWidthI n)) = _
      rw [e0]; rfl
    · show [] ++ [(⟨6, bWidthI n, (alignB (bWidthI n) []).length⟩ : Bv)] = _
      rw [e0]; rfl
    · intro l a hl h0 h1
      obtain ⟨r1, r2⟩ := hrd 6 (bWidthI n) (bits n) (bWidthI_is n) (.inr rfl) (Nat.le_refl _) rfl l a hl h0 h1
      exact ⟨r1.trans (decide_eq_decide.2 ⟨fun h => ⟨.inr rfl, h⟩, fun h => h.2⟩), r2.trans (by unfold numMag; rw [if_neg (by omega), if_pos (by omega)])⟩
  · have e0 : alignB (bWidth u) [] = [] := by unfold alignB padN; simp
    refine ⟨leBytes (bWidth u) (u % 2 ^ (8 * bWidth u)), ⟨7, bWidth u, 0⟩, 1, ?_, ?_, (finok_off (by decide) (by decide) (bWidth_is u)).1, fun x hx => numf_off hx (by decide) (by decide) (by decide) (bWidth_is u) (by decide) ?_⟩
    · show alignB (bWidth u) [] ++ leBytes (bWidth u) (u % 2 ^ (8 * bWidth u)) = _
      rw [e0]; rfl
    · show [] ++ [(⟨7, bWidth u, (alignB (bWidth u) []).length⟩ : Bv)] = _
      rw [e0]; rfl
    · intro l a hl h0 h1
      obtain ⟨r1, r2⟩ := hru 7 (bWidth u) u (bWidth_is u) (.inr rfl) (Nat.le_refl _) rfl l a hl h0 h1
      exact ⟨r1.trans (decide_eq_false (by omega)).symm, r2.trans (by unfold numMag; rw [if_neg (by omega), if_neg (by omega)])⟩
/-- The document of a number. -/
theorem build_num (fl : Int) {k n : Int} {u : Nat} {s : List UInt8} (h : NumV k n u s) (hn : -9223372036854775808 ≤ n ∧ n ≤ 9223372036854775807) (hu : u < 18446744073709551616) :
    ∃ d, d.length ≤ 1048576 ∧ (∀ w, Calls Tryz.prog 12 #[.agg #[.int .i64 k, .int .i64 n, .int .u64 (u : Int), .string ⟨s.toArray⟩, .slice none 0 0, .slice none 0 0], .int .i64 fl] w (DocW w d)) ∧ ∀ x : List UInt8, x.length % 8 = 0 → NumF (x ++ d) k (numNeg k n) (numMag k n u) := by
  obtain ⟨b, v, y, e1, e2, hf, hN⟩ := num_all h hn hu
  have hk : k = 1 ∨ k = 2 ∨ k = 3 ∨ k = 4 ∨ k = 8 ∨ k = 9 := by
    rcases h with ⟨rfl, _⟩ | ⟨rfl, _⟩ | ⟨rfl, _⟩ | ⟨rfl, _⟩ | ⟨rfl, _⟩ | ⟨rfl, _⟩ <;> omega
  refine ⟨docB b v y, ?_, fun w => ?_, hN⟩
  · have h8 : y ≤ 8 := by rcases w_cases hf.w with rfl | rfl | rfl | rfl <;> omega
    have h1 := alignB_len b h8
    have h2 := hf.len
    unfold docB
    simp only [List.length_append, leBytes_length, List.length_cons, List.length_nil]
    omega
  have hf' : FinOk (Bd.new.leaf 0 k n u s).b v y := by rw [e1]; exact hf
  have hc := capped_leaf fl (Bd.new.leaf 0 k n u s) v y k n u s
  have hd : docB b v y = alignB y (Bd.new.leaf 0 k n u s).b ++ leBytes y (elemN y (alignB y (Bd.new.leaf 0 k n u s).b).length v) ++ [bTag y v, UInt8.ofNat y] := by rw [e1]; rfl
  rw [hd]
  refine build_lift fl k n u s _ w fun W => hc W (fun W1 => ksorted_leaf (.inl h) W1 fun W2 => keyed_none k n u s none 0 none 0 W2 (by omega)) (fun M W1 o hM => ?_) e2 hf'
  exact callsleaf_spec M fl _ k n u s none 0 0 none 0 0 W1 o (by omega) fun W2 hW2 => leafn_spec M fl 0 Bd.new k n u s none 0 0 none 0 0 W2 o (hM.pure hW2) (by decide) (by decide) hn hu hk
end Go.Proofs.YtjhigmgkmmjlfaaGreat
