/-
  Package scalar: the property ScalarOne.
-/
import Derived.Test.YtaigofpipoimkaaScI
namespace Go.Proofs.Ytaigofpipoimkaa
open Go.RowKit Go.Acc
theorem one_cases (l : List UInt8) (p q t v : Int) :
    (plcE l p q t v ≠ 0 ∧ intV l p q t v = 0 ∧ intE l p q t v = plcE l p q t v ∧ (uintV l p q t v : Int) = 0 ∧ uintE l p q t v = plcE l p q t v ∧ boolV l p q t v = false) ∨
    (plcE l p q t v = 0 ∧ ∃ U : Nat, 1 ≤ U ∧ intV l p q t v = -(U : Int) ∧ intE l p q t v = 0 ∧ (uintV l p q t v : Int) = 0 ∧ uintE l p q t v = 10 ∧ boolV l p q t v = true) ∨
    (plcE l p q t v = 0 ∧ ∃ U : Nat, top63 U = true ∧ intV l p q t v = 0 ∧ intE l p q t v = 10 ∧ (uintV l p q t v : Int) = U ∧ uintE l p q t v = 0 ∧ boolV l p q t v = true) ∨
    (plcE l p q t v = 0 ∧ ∃ U : Nat, top63 U = false ∧ intV l p q t v = U ∧ intE l p q t v = 0 ∧ (uintV l p q t v : Int) = U ∧ uintE l p q t v = 0 ∧ boolV l p q t v = ((U : Int) != 0)) := by
  unfold intV intE uintV uintE boolV
  by_cases he : plcE l p q t v = 0
  · rw [he]
    cases hn : scN l p q t v with
    | true =>
      obtain ⟨_, h1, _⟩ := sc_neg hn
      refine .inr (.inl ⟨rfl, _, h1, rfl, rfl, rfl, rfl, ?_⟩)
      rw [bne_iff_ne]
      omega
    | false =>
      cases ht : top63 (scU l p q t v) with
      | true =>
        refine .inr (.inr (.inl ⟨rfl, _, ht, rfl, rfl, rfl, rfl, ?_⟩))
        unfold top63 at ht
        rw [decide_eq_true_eq] at ht
        rw [bne_iff_ne]
        omega
      | false => exact .inr (.inr (.inr ⟨rfl, _, ht, rfl, rfl, rfl, rfl, rfl⟩))
  · obtain ⟨h1, h2⟩ := sc_bad he
    rw [h1, h2, if_pos he, if_pos he]
    exact .inl ⟨he, rfl, rfl, rfl, rfl, rfl⟩
theorem int_is (A : Option Addr) (n c : Nat) (p q t v : Int) (l : List UInt8) (x er : Int) (w : World) (h : IsB w A n l) (hc : n ≤ c) (hn : n ≤ 9223372036854775807) (h1 : intV l p q t v = x) (h2 : intE l p q t v = er) :
    Calls Try.prog 25 #[.slice A n c, .agg #[.int .i64 p, .int .i64 q, .int .i64 t, .int .i64 v]] w fun e w' => e = .returned (.tuple #[.int .i64 x, .int .i64 er]) ∧ Below w.heap.size w w' := by
  subst h1 h2
  exact sint_spec A n c p q t v l w h hc hn
theorem uint_is (A : Option Addr) (n c : Nat) (p q t v : Int) (l : List UInt8) (x er : Int) (w : World) (h : IsB w A n l) (hc : n ≤ c) (hn : n ≤ 9223372036854775807) (h1 : (uintV l p q t v : Int) = x) (h2 : uintE l p q t v = er) :
    Calls Try.prog 26 #[.slice A n c, .agg #[.int .i64 p, .int .i64 q, .int .i64 t, .int .i64 v]] w fun e w' => e = .returned (.tuple #[.int .u64 x, .int .i64 er]) ∧ Below w.heap.size w w' := by
  subst h1 h2
  exact suint_spec A n c p q t v l w h hc hn
open Go.ChangeShapes Go.WideShapes Go.ChangeAt
end Go.Proofs.Ytaigofpipoimkaa
