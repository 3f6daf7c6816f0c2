/-
  Package scalar: Int, Uint, Bool.
-/
import Derived.Test.YtaigofpipoimkaaScD
import Derived.Test.YtaigofpipoimkaaLeP
namespace Go.Proofs.Ytaigofpipoimkaa
open Go.RowKit Go.Acc
def top63 (u : Nat) : Bool := decide (9223372036854775808 ≤ u)
def intV (l : List UInt8) (p q t v : Int) : Int := if scN l p q t v = true then -(scU l p q t v : Int) else if top63 (scU l p q t v) = true then 0 else scU l p q t v
def intE (l : List UInt8) (p q t v : Int) : Int := if plcE l p q t v ≠ 0 then plcE l p q t v else if scN l p q t v = true then 0 else if top63 (scU l p q t v) = true then 10 else 0
def uintV (l : List UInt8) (p q t v : Int) : Nat := if scN l p q t v = true then 0 else scU l p q t v
def uintE (l : List UInt8) (p q t v : Int) : Int := if plcE l p q t v ≠ 0 then plcE l p q t v else if scN l p q t v = true then 10 else 0
def boolV (l : List UInt8) (p q t v : Int) : Bool := (scU l p q t v : Int) != 0
theorem rdU_lt (l : List UInt8) (t a x : Int) : (rdU l t a x : Int) < 18446744073709551616 := by
  have h1 := loadU_64 l a x
  have h2 := loadI_64 l a x
  unfold rdU
  split
  · omega
  · split
    · omega
    · split <;> omega
theorem scU_lt (l : List UInt8) (p q t v : Int) : (scU l p q t v : Int) < 18446744073709551616 := by
  unfold scU
  split
  · exact rdU_lt ..
  · omega
theorem sc_neg {l : List UInt8} {p q t v : Int} (h : scN l p q t v = true) : plcE l p q t v = 0 ∧ 1 ≤ scU l p q t v ∧ (scU l p q t v : Int) ≤ 9223372036854775808 := by
  unfold scN at h
  rw [Bool.and_eq_true, decide_eq_true_eq] at h
  obtain ⟨h1, h2⟩ := h
  refine ⟨h1, ?_⟩
  unfold scU
  rw [if_pos h1]
  unfold rdN at h2
  rw [decide_eq_true_eq] at h2
  have h3 := loadI_64 l (plcA l p q t v) (plcW l p q t v)
  unfold rdU
  rw [if_neg (by omega), if_neg (by omega), if_pos h2.1]
  omega
theorem sc_bad {l : List UInt8} {p q t v : Int} (h : plcE l p q t v ≠ 0) : scN l p q t v = false ∧ scU l p q t v = 0 := by
  unfold scN scU
  rw [if_neg h, decide_eq_false h]
  exact ⟨rfl, rfl⟩
theorem wrap_neg (u : Nat) (h1 : 1 ≤ u) (h2 : (u : Int) ≤ 9223372036854775808) : wrap64 (IntKind.u64.wrap (-(u : Int))) = -(u : Int) := by
  rw [IntKind.wrap_u64]
  unfold wrap64
  omega
theorem top_yes {u : Nat} (h : top63 u = true) : decide ((9223372036854775808 : Int) ≤ (u : Int)) = true := by
  unfold top63 at h
  rw [decide_eq_true_eq] at h ⊢
  omega
theorem top_no {u : Nat} (h : top63 u = false) : decide ((9223372036854775808 : Int) ≤ (u : Int)) = false := by
  unfold top63 at h
  rw [decide_eq_false_iff_not] at h ⊢
  omega
theorem wrap_top {u : Nat} (h : top63 u = false) : wrap64 (u : Int) = u := by
  unfold top63 at h
  rw [decide_eq_false_iff_not] at h
  exact wrap64_in _ (by omega)
set_option maxRecDepth 100000 in
set_option maxHeartbeats 1000000 in
theorem sint_spec (A : Option Addr) (n c : Nat) (p q t v : Int) (l : List UInt8) (w : World) (h : IsB w A n l) (hc : n ≤ c) (hn : n ≤ 9223372036854775807) :
    Calls Try.prog 25 #[.slice A n c, .agg #[.int .i64 p, .int .i64 q, .int .i64 t, .int .i64 v]] w fun e w' => e = .returned (.tuple #[.int .i64 (intV l p q t v), .int .i64 (intE l p q t v)]) ∧ Below w.heap.size w w' := by
  have hlen := h.1
  subst hlen
  have HL := Lib.hid (h.alloc (.cells #[.int .i64 p, .int .i64 q, .int .i64 t, .int .i64 v] 23))
  have HB := Lib.hid ((Below.refl w.heap.size w).alloc (Nat.le_refl _) (.cells #[.int .i64 p, .int .i64 q, .int .i64 t, .int .i64 v] 23))
  obtain ⟨N, hN⟩ : ∃ x, scN l p q t v = x := ⟨_, rfl⟩
  obtain ⟨U, hU⟩ : ∃ x, scU l p q t v = x := ⟨_, rfl⟩
  obtain ⟨E, hE⟩ : ∃ x, plcE l p q t v = x := ⟨_, rfl⟩
  have hneg : N = true → E = 0 ∧ 1 ≤ U ∧ (U : Int) ≤ 9223372036854775808 := by
    intro e
    have := sc_neg (hN.trans e)
    rwa [hU, hE] at this
  have hbad : E ≠ 0 → N = false ∧ U = 0 := by
    intro e
    have := sc_bad (l := l) (p := p) (q := q) (t := t) (v := v) (by rwa [hE])
    rwa [hN, hU] at this
  have HN := Lib.hid hN
  have HU := Lib.hid hU
  have HE := Lib.hid hE
  have HNEG := Shut.mk hneg
  have HBAD := Shut.mk hbad
  clear hN hU hE hneg hbad h
  go_enter Try.func25, Try.ntmps25
  go_wp2_with fail
  go_at_call 74
  refine (read_spec A _ c p q t v l _ HL.out hc hn).mono ?_
  rw [HN.out, HU.out, HE.out]
  unfold valV
  rintro e w1 ⟨rfl, hb⟩
  replace HB := Lib.hid ((pure_below HB.out hb).alloc (pure_below HB.out hb).size (.cells #[.bool N, .int .u64 (U : Int)] 83))
  clear hb HL
  by_cases he : E = 0
  · subst he
    cases N with
    | true =>
      have hw := HNEG.out rfl
      have hw2 := wrap_neg U hw.2.1 hw.2.2
      clear hw
      go_wp2
      go_ret2
      unfold intV intE
      rw [HN.out, HU.out, HE.out]
      exact ⟨ret_t2 hw2 rfl, HB.out⟩
    | false =>
      cases ht : top63 U with
      | true =>
        have HT := Lib.hid ht
        have hd := top_yes ht
        clear ht
        go_wp2
        go_ret2
        unfold intV intE
        rw [HN.out, HU.out, HE.out, HT.out]
        exact ⟨rfl, HB.out⟩
      | false =>
        have HT := Lib.hid ht
        have hd := top_no ht
        have hw2 := wrap_top ht
        clear ht
        go_wp2
        go_ret2
        unfold intV intE
        rw [HN.out, HU.out, HE.out, HT.out]
        exact ⟨ret_t2 hw2 rfl, HB.out⟩
  · obtain ⟨rfl, rfl⟩ := HBAD.out he
    have hne : (E != 0) = true := by simpa using he
    have HNE := Lib.hid he
    clear he
    go_wp2
    go_ret2
    unfold intV intE
    rw [HN.out, HU.out, HE.out, if_pos HNE.out]
    exact ⟨rfl, HB.out⟩
set_option maxRecDepth 100000 in
set_option maxHeartbeats 1000000 in
theorem suint_spec (A : Option Addr) (n c : Nat) (p q t v : Int) (l : List UInt8) (w : World) (h : IsB w A n l) (hc : n ≤ c) (hn : n ≤ 9223372036854775807) :
    Calls Try.prog 26 #[.slice A n c, .agg #[.int .i64 p, .int .i64 q, .int .i64 t, .int .i64 v]] w fun e w' => e = .returned (.tuple #[.int .u64 (uintV l p q t v : Nat), .int .i64 (uintE l p q t v)]) ∧ Below w.heap.size w w' := by
  have hlen := h.1
  subst hlen
  have HL := Lib.hid (h.alloc (.cells #[.int .i64 p, .int .i64 q, .int .i64 t, .int .i64 v] 23))
  have HB := Lib.hid ((Below.refl w.heap.size w).alloc (Nat.le_refl _) (.cells #[.int .i64 p, .int .i64 q, .int .i64 t, .int .i64 v] 23))
  obtain ⟨N, hN⟩ : ∃ x, scN l p q t v = x := ⟨_, rfl⟩
  obtain ⟨U, hU⟩ : ∃ x, scU l p q t v = x := ⟨_, rfl⟩
  obtain ⟨E, hE⟩ : ∃ x, plcE l p q t v = x := ⟨_, rfl⟩
  have hneg : N = true → E = 0 ∧ 1 ≤ U ∧ (U : Int) ≤ 9223372036854775808 := by
    intro e
    have := sc_neg (hN.trans e)
    rwa [hU, hE] at this
  have hbad : E ≠ 0 → N = false ∧ U = 0 := by
    intro e
    have := sc_bad (l := l) (p := p) (q := q) (t := t) (v := v) (by rwa [hE])
    rwa [hN, hU] at this
  have HN := Lib.hid hN
  have HU := Lib.hid hU
  have HE := Lib.hid hE
  have HNEG := Shut.mk hneg
  have HBAD := Shut.mk hbad
  clear hN hU hE hneg hbad h
  go_enter Try.func26, Try.ntmps26
  go_wp2_with fail
  go_at_call 74
  refine (read_spec A _ c p q t v l _ HL.out hc hn).mono ?_
  rw [HN.out, HU.out, HE.out]
  unfold valV
  rintro e w1 ⟨rfl, hb⟩
  replace HB := Lib.hid ((pure_below HB.out hb).alloc (pure_below HB.out hb).size (.cells #[.bool N, .int .u64 (U : Int)] 83))
  clear hb HL
  by_cases he : E = 0
  · subst he
    cases N with
    | true =>
      go_wp2
      go_ret2
      unfold uintV uintE
      rw [HN.out, HU.out, HE.out]
      exact ⟨rfl, HB.out⟩
    | false =>
      go_wp2
      go_ret2
      unfold uintV uintE
      rw [HN.out, HU.out, HE.out]
      exact ⟨rfl, HB.out⟩
  · obtain ⟨rfl, rfl⟩ := HBAD.out he
    have hne : (E == 0) = false := by simpa using he
    have HNE := Lib.hid he
    clear he
    go_wp2
    go_ret2
    unfold uintV uintE
    rw [HN.out, HU.out, HE.out, if_pos HNE.out]
    exact ⟨rfl, HB.out⟩
set_option maxRecDepth 100000 in
set_option maxHeartbeats 1000000 in
theorem sbool_spec (A : Option Addr) (n c : Nat) (p q t v : Int) (l : List UInt8) (w : World) (h : IsB w A n l) (hc : n ≤ c) (hn : n ≤ 9223372036854775807) :
    Calls Try.prog 75 #[.slice A n c, .agg #[.int .i64 p, .int .i64 q, .int .i64 t, .int .i64 v]] w fun e w' => e = .returned (.tuple #[.bool (boolV l p q t v), .int .i64 (plcE l p q t v)]) ∧ Below w.heap.size w w' := by
  have hlen := h.1
  subst hlen
  have HL := Lib.hid (h.alloc (.cells #[.int .i64 p, .int .i64 q, .int .i64 t, .int .i64 v] 23))
  have HB := Lib.hid ((Below.refl w.heap.size w).alloc (Nat.le_refl _) (.cells #[.int .i64 p, .int .i64 q, .int .i64 t, .int .i64 v] 23))
  obtain ⟨N, hN⟩ : ∃ x, scN l p q t v = x := ⟨_, rfl⟩
  obtain ⟨U, hU⟩ : ∃ x, scU l p q t v = x := ⟨_, rfl⟩
  obtain ⟨E, hE⟩ : ∃ x, plcE l p q t v = x := ⟨_, rfl⟩
  have hneg : N = true → E = 0 ∧ 1 ≤ U ∧ (U : Int) ≤ 9223372036854775808 := by
    intro e
    have := sc_neg (hN.trans e)
    rwa [hU, hE] at this
  have hbad : E ≠ 0 → N = false ∧ U = 0 := by
    intro e
    have := sc_bad (l := l) (p := p) (q := q) (t := t) (v := v) (by rwa [hE])
    rwa [hN, hU] at this
  have HN := Lib.hid hN
  have HU := Lib.hid hU
  have HE := Lib.hid hE
  have HNEG := Shut.mk hneg
  have HBAD := Shut.mk hbad
  clear hN hU hE hneg hbad h
  go_enter Try.func75, Try.ntmps75
  go_wp2_with fail
  go_at_call 74
  refine (read_spec A _ c p q t v l _ HL.out hc hn).mono ?_
  rw [HN.out, HU.out, HE.out]
  unfold valV
  rintro e w1 ⟨rfl, hb⟩
  replace HB := Lib.hid ((pure_below HB.out hb).alloc (pure_below HB.out hb).size (.cells #[.bool N, .int .u64 (U : Int)] 83))
  clear hb HL
  by_cases he : E = 0
  · subst he
    go_wp2
    go_ret2
    unfold boolV
    rw [HU.out, HE.out]
    exact ⟨rfl, HB.out⟩
  · go_wp2
    go_ret2
    unfold boolV
    rw [HU.out, HE.out]
    exact ⟨rfl, HB.out⟩
end Go.Proofs.Ytaigofpipoimkaa
