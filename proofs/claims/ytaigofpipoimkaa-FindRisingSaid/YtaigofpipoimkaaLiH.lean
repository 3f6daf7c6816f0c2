/-
  Package list: At.
-/
import Derived.Test.YtaigofpipoimkaaLiG
namespace Go.Proofs.Ytaigofpipoimkaa
open Go.RowKit Go.Acc
def tagB (l : List UInt8) (p q t v : Int) (i : Int) : UInt8 := l.getD (lsAt l p q t v + lsLen l p q t v * v.toNat + i.toNat) 0
def atE (l : List UInt8) (p q t v i : Int) : Int :=
  if lsE l p q t v ≠ 0 then lsE l p q t v else if i < 0 ∨ (lsLen l p q t v : Int) ≤ i then 6 else if tagT t = true then unE (tagB l p q t v i) else 0
/-- The reference to an element: position, width of the number, type, width. -/
def atP (l : List UInt8) (p q t v i : Int) : Int := if atE l p q t v i = 0 then ((lsAt l p q t v : Int) + (i.toNat * v.toNat : Nat)) else 0
def atQ (l : List UInt8) (p q t v i : Int) : Int := if atE l p q t v i = 0 then v else 0
def atT (l : List UInt8) (p q t v i : Int) : Int := if atE l p q t v i = 0 then (if tagT t = true then unT (tagB l p q t v i) else elemT t) else 0
def atV (l : List UInt8) (p q t v i : Int) : Int := if atE l p q t v i = 0 then (if tagT t = true then unW (tagB l p q t v i) else v) else 0
def AtW (w : World) (l : List UInt8) (p q t v i : Int) (e : Ending) (w' : World) : Prop :=
  e = .returned (.tuple #[.agg #[.int .i64 (atP l p q t v i), .int .i64 (atQ l p q t v i), .int .i64 (atT l p q t v i), .int .i64 (atV l p q t v i)], .int .i64 (atE l p q t v i)]) ∧ Below w.heap.size w w'
theorem atw_no {w w' : World} {l : List UInt8} {p q t v i er : Int} (h : atE l p q t v i = er) (hne : er ≠ 0) (hb : Below w.heap.size w w') : AtW w l p q t v i (.returned (.tuple #[.agg #[.int .i64 0, .int .i64 0, .int .i64 0, .int .i64 0], .int .i64 er])) w' := by
  unfold AtW atP atQ atT atV
  rw [h, if_neg hne, if_neg hne, if_neg hne, if_neg hne]
  exact ⟨rfl, hb⟩
theorem atw_yes {w w' : World} {l : List UInt8} {p q t v i a b c d : Int} (h : atE l p q t v i = 0) (h1 : ((lsAt l p q t v : Int) + (i.toNat * v.toNat : Nat)) = a) (h2 : v = b) (h3 : (if tagT t = true then unT (tagB l p q t v i) else elemT t) = c) (h4 : (if tagT t = true then unW (tagB l p q t v i) else v) = d) (hb : Below w.heap.size w w') :
    AtW w l p q t v i (.returned (.tuple #[.agg #[.int .i64 a, .int .i64 b, .int .i64 c, .int .i64 d], .int .i64 0])) w' := by
  unfold AtW atP atQ atT atV
  rw [h, if_pos rfl, if_pos rfl, if_pos rfl, if_pos rfl, h1, h3, h4, ← h2]
  exact ⟨rfl, hb⟩
theorem ls_ok {l : List UInt8} {p q t v : Int} (h : lsE l p q t v = 0) : isL t = true ∧ isT t = true ∧ isW v = true ∧ (lsAt l p q t v) + lsLen l p q t v * (v.toNat + tgs t) ≤ l.length ∧ 0 ≤ p ∧ 0 ≤ q ∧ p + q ≤ l.length ∧ isW q = true ∧ (lsAt l p q t v : Int) % v = 0 := by
  rcases ls_cases l p q t v with ⟨h1, e⟩ | ⟨h1, ⟨_, e⟩ | ⟨h2, ⟨h3, e⟩ | ⟨h3, ⟨_, e⟩ | ⟨_, _, e⟩ | ⟨_, _, _, e⟩ | ⟨h4, _, h5, _⟩⟩⟩⟩
  · rw [e] at h; exact absurd h h1
  · rw [e] at h; cases h
  · rw [e] at h; exact absurd h h3
  · rw [e] at h; cases h
  · rw [e] at h; cases h
  · rw [e] at h; cases h
  · obtain ⟨g1, g2⟩ := mayE_ok.1 h1
    have g2 := inB_iff.1 g2
    have g1 := formed_iff.1 g1
    have hr := tgt_rl h3
    have ea : lsAt l p q t v = (tgt l p q t v).toNat := if_pos h
    have el : lsLen l p q t v = lsN l p q t v := if_pos h
    refine ⟨h2, legal_isT g1.1, g1.2.2, ?_, g2.1, g2.2.1, g2.2.2, g1.2.1, ?_⟩
    · rw [ea, el]; exact h5
    · rw [ea, Int.toNat_of_nonneg hr.1]; exact h4
theorem sh_get {t : Int} (hL : isL t = true) (ht : isT t = true) : ∃ a F tg, shR t.toNat = [a, F, (if tagT t = true then fnV 118 else fnV 116), tg] := by
  rcases shcases ht with ⟨h, _⟩ | ⟨_, _, _, hT, _, e⟩ | ⟨_, _, _, e⟩
  · rw [hL] at h; cases h
  · rw [hT]; exact ⟨_, _, _, e⟩
  · exact ⟨_, _, _, e⟩
theorem sh_field (a F G tg : Value) : ∀ W : World, (Instr.field 102 (.agg #[a, F, G, tg]) 2).run Try.prog W = .ok G W := by
  intro W
  kernel_rfl
end Go.Proofs.Ytaigofpipoimkaa
