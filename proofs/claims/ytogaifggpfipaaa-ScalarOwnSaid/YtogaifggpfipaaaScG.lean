/-
  Package scalar's reference: Int, Uint, Bool.
-/
import Derived.Test.YtogaifggpfipaaaScF
namespace Go.Proofs.Ytogaifggpfipaaa
open Go.RowKit Go.Acc
theorem top_yes2 {u : Nat} (h : top63 u = true) : decide ((9223372036854775807 : Int) < (u : Int)) = true := by
  unfold top63 at h
  rw [decide_eq_true_eq] at h ⊢
  omega
theorem top_no2 {u : Nat} (h : top63 u = false) : decide ((9223372036854775807 : Int) < (u : Int)) = false := by
  unfold top63 at h
  rw [decide_eq_false_iff_not] at h ⊢
  omega
theorem wrap_back (u : Nat) (h1 : 1 ≤ u) (h2 : (u : Int) ≤ 9223372036854775808) : wrap64 (wrap64 (-wrap64 ((u : Int) - 1)) - 1) = -(u : Int) := by
  unfold wrap64
  omega
set_option maxRecDepth 100000 in
set_option maxHeartbeats 1000000 in
theorem rsint_spec (A : Option Addr) (n c : Nat) (p q t v : Int) (l : List UInt8) (w : World) (h : IsB w A n l) (hn : n ≤ 9223372036854775807) :
    Calls Try.prog 18 #[.slice A n c, .agg #[.int .i64 p, .int .i64 q, .int .i64 t, .int .i64 v]] w fun e w' => e = .returned (.tuple #[.int .i64 (intV l p q t v), .int .i64 (intE l p q t v)]) ∧ Below w.heap.size w w' := by
  have hlen := h.1
  subst hlen
  have HL := Lib.hid (h.alloc (.cells #[.int .i64 p, .int .i64 q, .int .i64 t, .int .i64 v] 24))
  have HB := Lib.hid ((Below.refl w.heap.size w).alloc (Nat.le_refl _) (.cells #[.int .i64 p, .int .i64 q, .int .i64 t, .int .i64 v] 24))
  obtain ⟨N, hN⟩ : ∃ x, scN l p q t v = x := ⟨_, rfl⟩
  obtain ⟨U, hU⟩ : ∃ x, scU l p q t v = x := ⟨_, rfl⟩
  obtain ⟨E, hE⟩ : ∃ x, plcE l p q t v = x := ⟨_, rfl⟩
  have hneg : N = true → E = 0 ∧ 1 ≤ U ∧ (U : Int) ≤ 9223372036854775808 := by
    intro e
    have := sc_neg (hN.trans e)
    rwa [hU, hE] at this
  have hbad : E ≠ 0 → N = false ∧ U = 0 := by
    intro e
    have := sc_bad (l := l) (p := p) (q := q) (t := t) (v := v) (by rwa [hE])
    rwa [hN, hU] at this
  have HN := Lib.hid hN
  have HU := Lib.hid hU
  have HE := Lib.hid hE
  have HNEG := Shut.mk hneg
  have HBAD := Shut.mk hbad
  clear hN hU hE hneg hbad h
  go_enter Try.func18, Try.ntmps18
  go_wp2_with fail
  go_at_call 57
  refine (rnum_spec A _ c p q t v l _ HL.out hn).mono ?_
  rw [HN.out, HU.out, HE.out]
  rintro e w1 ⟨rfl, hb⟩
  replace HB := Lib.hid (pure_below HB.out hb)
  clear hb HL
  by_cases he : E = 0
  · subst he
    cases N with
    | true =>
      have hw := HNEG.out rfl
      have hw2 := wrap_back U hw.2.1 hw.2.2
      have hu1 : 1 ≤ U := hw.2.1
      have HW2 := Lib.hid hw2
      have hw3 : IntKind.u64.wrap ((U : Int) - 1) = (U : Int) - 1 := u64_in _ (by omega)
      clear hw hw2
      go_wp2
      go_ret2
      unfold intV intE
      rw [HN.out, HU.out, HE.out]
      exact ⟨ret_t2 HW2.out rfl, HB.out⟩
    | false =>
      cases ht : top63 U with
      | true =>
        have HT := Lib.hid ht
        have hd := top_yes2 ht
        clear ht
        go_wp2
        go_ret2
        unfold intV intE
        rw [HN.out, HU.out, HE.out, HT.out]
        exact ⟨rfl, HB.out⟩
      | false =>
        have HT := Lib.hid ht
        have hd := top_no2 ht
        have hw2 := wrap_top ht
        clear ht
        go_wp2
        go_ret2
        unfold intV intE
        rw [HN.out, HU.out, HE.out, HT.out]
        exact ⟨ret_t2 hw2 rfl, HB.out⟩
  · obtain ⟨rfl, rfl⟩ := HBAD.out he
    have hne : (E != 0) = true := by simpa using he
    have HNE := Lib.hid he
    clear he
    go_wp2
    go_ret2
    unfold intV intE
    rw [HN.out, HU.out, HE.out, if_pos HNE.out]
    exact ⟨rfl, HB.out⟩
set_option maxRecDepth 100000 in
set_option maxHeartbeats 1000000 in
theorem rsuint_spec (A : Option Addr) (n c : Nat) (p q t v : Int) (l : List UInt8) (w : World) (h : IsB w A n l) (hn : n ≤ 9223372036854775807) :
    Calls Try.prog 20 #[.slice A n c, .agg #[.int .i64 p, .int .i64 q, .int .i64 t, .int .i64 v]] w fun e w' => e = .returned (.tuple #[.int .u64 (uintV l p q t v : Nat), .int .i64 (uintE l p q t v)]) ∧ Below w.heap.size w w' := by
  have hlen := h.1
  subst hlen
  have HL := Lib.hid (h.alloc (.cells #[.int .i64 p, .int .i64 q, .int .i64 t, .int .i64 v] 24))
  have HB := Lib.hid ((Below.refl w.heap.size w).alloc (Nat.le_refl _) (.cells #[.int .i64 p, .int .i64 q, .int .i64 t, .int .i64 v] 24))
  obtain ⟨N, hN⟩ : ∃ x, scN l p q t v = x := ⟨_, rfl⟩
  obtain ⟨U, hU⟩ : ∃ x, scU l p q t v = x := ⟨_, rfl⟩
  obtain ⟨E, hE⟩ : ∃ x, plcE l p q t v = x := ⟨_, rfl⟩
  have hneg : N = true → E = 0 ∧ 1 ≤ U ∧ (U : Int) ≤ 9223372036854775808 := by
    intro e
    have := sc_neg (hN.trans e)
    rwa [hU, hE] at this
  have hbad : E ≠ 0 → N = false ∧ U = 0 := by
    intro e
    have := sc_bad (l := l) (p := p) (q := q) (t := t) (v := v) (by rwa [hE])
    rwa [hN, hU] at this
  have HN := Lib.hid hN
  have HU := Lib.hid hU
  have HE := Lib.hid hE
  have HNEG := Shut.mk hneg
  have HBAD := Shut.mk hbad
  clear hN hU hE hneg hbad h
  go_enter Try.func20, Try.ntmps20
  go_wp2_with fail
  go_at_call 57
  refine (rnum_spec A _ c p q t v l _ HL.out hn).mono ?_
  rw [HN.out, HU.out, HE.out]
  rintro e w1 ⟨rfl, hb⟩
  replace HB := Lib.hid (pure_below HB.out hb)
  clear hb HL
  by_cases he : E = 0
  · subst he
    cases N with
    | true =>
      go_wp2
      go_ret2
      unfold uintV uintE
      rw [HN.out, HU.out, HE.out]
      exact ⟨rfl, HB.out⟩
    | false =>
      go_wp2
      go_ret2
      unfold uintV uintE
      rw [HN.out, HU.out, HE.out]
      exact ⟨rfl, HB.out⟩
  · obtain ⟨rfl, rfl⟩ := HBAD.out he
    have hne : (E != 0) = true := by simpa using he
    have HNE := Lib.hid he
    clear he
    go_wp2
    go_ret2
    unfold uintV uintE
    rw [HN.out, HU.out, HE.out, if_pos HNE.out]
    exact ⟨rfl, HB.out⟩
set_option maxRecDepth 100000 in
set_option maxHeartbeats 1000000 in
theorem rsbool_spec (A : Option Addr) (n c : Nat) (p q t v : Int) (l : List UInt8) (w : World) (h : IsB w A n l) (hn : n ≤ 9223372036854775807) :
    Calls Try.prog 22 #[.slice A n c, .agg #[.int .i64 p, .int .i64 q, .int .i64 t, .int .i64 v]] w fun e w' => e = .returned (.tuple #[.bool (boolV l p q t v), .int .i64 (plcE l p q t v)]) ∧ Below w.heap.size w w' := by
  have hlen := h.1
  subst hlen
  have HL := Lib.hid (h.alloc (.cells #[.int .i64 p, .int .i64 q, .int .i64 t, .int .i64 v] 24))
  have HB := Lib.hid ((Below.refl w.heap.size w).alloc (Nat.le_refl _) (.cells #[.int .i64 p, .int .i64 q, .int .i64 t, .int .i64 v] 24))
  obtain ⟨N, hN⟩ : ∃ x, scN l p q t v = x := ⟨_, rfl⟩
  obtain ⟨U, hU⟩ : ∃ x, scU l p q t v = x := ⟨_, rfl⟩
  obtain ⟨E, hE⟩ : ∃ x, plcE l p q t v = x := ⟨_, rfl⟩
  have hneg : N = true → E = 0 ∧ 1 ≤ U ∧ (U : Int) ≤ 9223372036854775808 := by
    intro e
    have := sc_neg (hN.trans e)
    rwa [hU, hE] at this
  have hbad : E ≠ 0 → N = false ∧ U = 0 := by
    intro e
    have := sc_bad (l := l) (p := p) (q := q) (t := t) (v := v) (by rwa [hE])
    rwa [hN, hU] at this
  have HN := Lib.hid hN
  have HU := Lib.hid hU
  have HE := Lib.hid hE
  have HNEG := Shut.mk hneg
  have HBAD := Shut.mk hbad
  clear hN hU hE hneg hbad h
  go_enter Try.func22, Try.ntmps22
  go_wp2_with fail
  go_at_call 57
  refine (rnum_spec A _ c p q t v l _ HL.out hn).mono ?_
  rw [HN.out, HU.out, HE.out]
  rintro e w1 ⟨rfl, hb⟩
  replace HB := Lib.hid (pure_below HB.out hb)
  clear hb HL
  by_cases he : E = 0
  · subst he
    go_wp2
    go_ret2
    unfold boolV
    rw [HU.out, HE.out]
    exact ⟨rfl, HB.out⟩
  · obtain ⟨rfl, rfl⟩ := HBAD.out he
    have hne : (E == 0) = false := by simpa using he
    clear he
    go_wp2
    go_ret2
    unfold boolV
    rw [HU.out, HE.out]
    exact ⟨rfl, HB.out⟩
end Go.Proofs.Ytogaifggpfipaaa
