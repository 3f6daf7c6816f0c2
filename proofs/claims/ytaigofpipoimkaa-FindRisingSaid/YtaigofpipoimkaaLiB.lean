/-
  Package list: the shape of a type; how many elements.
-/
import Derived.Test.YtaigofpipoimkaaLiA
import Derived.Test.YtaigofpipoimkaaRefD
namespace Go.Proofs.Ytaigofpipoimkaa
open Go.RowKit Go.Acc
theorem shindex {t : Int} (ht : isT t = true) : ∀ w, (Instr.index 103 (.agg shS) (.int .i64 t)).run Try.prog w = .ok (.agg (shR t.toNat).toArray) w := by
  have h : ∀ n : Fin 37, ∀ w, (Instr.index 103 (.agg shS) (.int .i64 ((n.val : Nat) : Int))).run Try.prog w = .ok (.agg (shR ((n.val : Nat) : Int).toNat).toArray) w := by
    intro n
    rcases n with ⟨n, hn⟩
    have : n = 0 ∨ n = 1 ∨ n = 2 ∨ n = 3 ∨ n = 4 ∨ n = 5 ∨ n = 6 ∨ n = 7 ∨ n = 8 ∨ n = 9 ∨ n = 10 ∨ n = 11 ∨ n = 12 ∨ n = 13 ∨ n = 14 ∨ n = 15 ∨ n = 16 ∨ n = 17 ∨ n = 18 ∨ n = 19 ∨ n = 20 ∨ n = 21 ∨ n = 22 ∨ n = 23 ∨ n = 24 ∨ n = 25 ∨ n = 26 ∨ n = 27 ∨ n = 28 ∨ n = 29 ∨ n = 30 ∨ n = 31 ∨ n = 32 ∨ n = 33 ∨ n = 34 ∨ n = 35 ∨ n = 36 := by omega
    rcases this with rfl | rfl | rfl | rfl | rfl | rfl | rfl | rfl | rfl | rfl | rfl | rfl | rfl | rfl | rfl | rfl | rfl | rfl | rfl | rfl | rfl | rfl | rfl | rfl | rfl | rfl | rfl | rfl | rfl | rfl | rfl | rfl | rfl | rfl | rfl | rfl | rfl
    all_goals
      intro w
      kernel_rfl
  exact t37_all (p := fun t => ∀ w, (Instr.index 103 (.agg shS) (.int .i64 t)).run Try.prog w = .ok (.agg (shR t.toNat).toArray) w) h ht
/-- Has the type elements; have they tags; how many numbers stand ahead. -/
def isL (t : Int) : Bool := decide (t = 9 ∨ t = 10) || vecT t
def tagT (t : Int) : Bool := decide (t = 9 ∨ t = 10)
def aheadT (t : Int) : Nat := if t = 9 then 3 else if 0 < manyT t then 0 else 1
def tgs (t : Int) : Nat := if tagT t = true then 1 else 0
theorem shcases {t : Int} (ht : isT t = true) :
    (isL t = false ∧ shR t.toNat = [.int .i64 0, .nilFunc, .nilFunc, .int .i64 0]) ∨
    (isL t = true ∧ 0 < manyT t ∧ manyT t ≤ 4 ∧ tagT t = false ∧ aheadT t = 0 ∧ shR t.toNat = [.int .i64 0, fnV 115, fnV 116, .int .i64 0]) ∨
    (isL t = true ∧ manyT t = 0 ∧ (aheadT t = 1 ∨ aheadT t = 3) ∧ shR t.toNat = [.int .i64 (aheadT t : Int), fnV 117, (if tagT t = true then fnV 118 else fnV 116), .int .i64 (tgs t : Int)]) := by
  have hb := isT_iff.1 ht
  have : t = 0 ∨ t = 1 ∨ t = 2 ∨ t = 3 ∨ t = 4 ∨ t = 5 ∨ t = 6 ∨ t = 7 ∨ t = 8 ∨ t = 9 ∨ t = 10 ∨ t = 11 ∨ t = 12 ∨ t = 13 ∨ t = 14 ∨ t = 15 ∨ t = 16 ∨ t = 17 ∨ t = 18 ∨ t = 19 ∨ t = 20 ∨ t = 21 ∨ t = 22 ∨ t = 23 ∨ t = 24 ∨ t = 25 ∨ t = 26 ∨ t = 27 ∨ t = 28 ∨ t = 29 ∨ t = 30 ∨ t = 31 ∨ t = 32 ∨ t = 33 ∨ t = 34 ∨ t = 35 ∨ t = 36 := by omega
  clear hb ht
  rcases this with rfl | rfl | rfl | rfl | rfl | rfl | rfl | rfl | rfl | rfl | rfl | rfl | rfl | rfl | rfl | rfl | rfl | rfl | rfl | rfl | rfl | rfl | rfl | rfl | rfl | rfl | rfl | rfl | rfl | rfl | rfl | rfl | rfl | rfl | rfl | rfl | rfl
  all_goals first
    | exact .inl ⟨by decide, rfl⟩
    | exact .inr (.inl ⟨by decide, by decide, by decide, by decide, by decide, rfl⟩)
    | exact .inr (.inr ⟨by decide, by decide, by decide, rfl⟩)
set_option maxRecDepth 100000 in
set_option maxHeartbeats 400000 in
theorem fixed_spec (A : Option Addr) (n c : Nat) (p q t v a : Int) (M : Nat) (w : World) (hm : manyT t = M) (hM : M ≤ 4) :
    Calls Try.prog 115 #[.slice A n c, .agg #[.int .i64 p, .int .i64 q, .int .i64 t, .int .i64 v], .int .i64 a] w fun e w' => e = .returned (.int .u64 (M : Int)) ∧ Below w.heap.size w w' := by
  have HB := Lib.hid ((Below.refl w.heap.size w).alloc (Nat.le_refl _) (.cells #[.int .i64 p, .int .i64 q, .int .i64 t, .int .i64 v] 23))
  have HM := Lib.hid hm
  clear hm
  go_enter Try.func115, Try.ntmps115
  go_wp2_with fail
  go_at_call 42
  refine (elem_spec t _).mono ?_
  rw [HM.out]
  rintro e w1 ⟨rfl, hb⟩
  replace HB := Lib.hid (pure_below HB.out hb)
  clear hb
  have hw : IntKind.u64.wrap (M : Int) = M := u64_in _ (by omega)
  go_wp2
  go_ret
  exact ⟨rfl, HB.out⟩
set_option maxRecDepth 100000 in
set_option maxHeartbeats 400000 in
theorem length_spec (A : Option Addr) (n c : Nat) (p q t : Int) (v a : Nat) (l : List UInt8) (w : World) (h : IsB w A n l) (hc : n ≤ c) (hn : n ≤ 1099511627776) (ha : a ≤ 1099511627776) (hv : v ≤ 8) :
    Calls Try.prog 117 #[.slice A n c, .agg #[.int .i64 p, .int .i64 q, .int .i64 t, .int .i64 v], .int .i64 a] w fun e w' => e = .returned (.int .u64 (loadU l ((a : Int) - v) v : Nat)) ∧ Below w.heap.size w w' := by
  have HL := Lib.hid (h.alloc (.cells #[.int .i64 p, .int .i64 q, .int .i64 t, .int .i64 v] 23))
  have HB := Lib.hid ((Below.refl w.heap.size w).alloc (Nat.le_refl _) (.cells #[.int .i64 p, .int .i64 q, .int .i64 t, .int .i64 v] 23))
  clear h
  go_enter Try.func117, Try.ntmps117
  go_wp2_with fail
  go_at_call 61
  refine (load_spec A n c ((a : Int) - v) v l _ HL.out hc (by omega)).mono ?_
  rintro e w1 ⟨rfl, hb⟩
  replace HB := Lib.hid (pure_below HB.out hb)
  clear hb
  go_wp2
  go_ret
  exact ⟨rfl, HB.out⟩
theorem length_is (A : Option Addr) (n c : Nat) (p q t : Int) (v a U : Nat) (l : List UInt8) (w : World) (h : IsB w A n l) (hc : n ≤ c) (hn : n ≤ 1099511627776) (ha : a ≤ 1099511627776) (hv : v ≤ 8) (hU : loadU l ((a : Int) - v) v = U) :
    Calls Try.prog 117 #[.slice A n c, .agg #[.int .i64 p, .int .i64 q, .int .i64 t, .int .i64 v], .int .i64 a] w fun e w' => e = .returned (.int .u64 (U : Int)) ∧ Below w.heap.size w w' := by
  subst hU
  exact length_spec A n c p q t v a l w h hc hn ha hv
end Go.Proofs.Ytaigofpipoimkaa
