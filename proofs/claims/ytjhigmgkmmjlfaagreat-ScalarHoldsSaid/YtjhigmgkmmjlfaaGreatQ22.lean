/-
  Package le: the plain laws of bytes and numbers (no program in sight).
  Package scalar: Int, Uint, Bool.
  Package scalar's reference: Place, the number, Int, Uint, Bool.
  Package scalar's reference: Int, Uint, Bool.
  Package le: reading the arguments of the properties.
  Package ref: reading the arguments of the properties.
  The head of an argument, b[:min(len(b), N)], under one name.
-/
import Derived.Test.YtjhigmgkmmjlfaaGreatQ21
import Derived.Lib.SmallJoins
namespace Go.Proofs.YtjhigmgkmmjlfaaGreat
open Go.Acc

/-- A fact that no tactic looks into. -/
structure Shut (p : Prop) : Prop where
  out : p

theorem leBytes_mod (n u : Nat) : leBytes n (u % 2 ^ (8 * n)) = leBytes n u := by
  unfold leBytes
  refine List.map_congr_left fun i hi => ?_
  have hi : i < n := List.mem_range.1 hi
  apply UInt8.toNat_inj.1
  rw [UInt8.toNat_ofNat', UInt8.toNat_ofNat']
  have e : 2 ^ (8 * n) = 2 ^ (8 * i) * (2 ^ 8 * 2 ^ (8 * (n - i - 1))) := by
    rw [← Nat.pow_add, ← Nat.pow_add]
    congr 1
    omega
  rw [e, Nat.mod_mul_right_div_self]
  exact Nat.mod_mul_right_mod _ _ _
theorem leBytes_congr {n u v : Nat} (h : u % 2 ^ (8 * n) = v % 2 ^ (8 * n)) : leBytes n u = leBytes n v := by
  rw [← leBytes_mod n u, h, leBytes_mod]
theorem leBytes_leVal (l : List UInt8) : leBytes l.length (leVal l) = l := by
  generalize hn : l.length = n
  induction n generalizing l with
  | zero => rw [List.eq_nil_of_length_eq_zero hn]; rfl
  | succ n ih =>
    obtain ⟨l', c, rfl⟩ : ∃ l' c, l = l' ++ [c] := ⟨l.dropLast, l.getLast (by intro e; simp [e] at hn), (List.dropLast_concat_getLast _).symm⟩
    have hn' : l'.length = n := by simpa using hn
    have hlt := leVal_lt l'
    rw [hn'] at hlt
    rw [leBytes_succ, leVal_snoc, hn']
    congr 1
    · rw [← leBytes_mod, Nat.add_mul_mod_self_right, Nat.mod_eq_of_lt hlt]
      exact ih l' hn'
    · congr 1
      rw [Nat.add_mul_div_right _ _ (Nat.two_pow_pos _), Nat.div_eq_of_lt hlt, Nat.zero_add]
      simp
theorem leVal_leBytes_lt {n u : Nat} (h : u < 2 ^ (8 * n)) : leVal (leBytes n u) = u := by
  rw [leVal_leBytes, Nat.mod_eq_of_lt h]

theorem sx_fits {y u : Nat} (hy : isW (y : Int) = true) (hu : u < 2 ^ (8 * y)) : fitsI y (sx y u) = true := by
  rw [fitsI_iff]
  rcases w_cases hy with rfl | rfl | rfl | rfl
  · right; unfold sx; split <;> simp only [Nat.reduceMul, Nat.reduceSub, Nat.reducePow] at * <;> omega
  · right; unfold sx; split <;> simp only [Nat.reduceMul, Nat.reduceSub, Nat.reducePow] at * <;> omega
  · right; unfold sx; split <;> simp only [Nat.reduceMul, Nat.reduceSub, Nat.reducePow] at * <;> omega
  · left; rfl
theorem sx_mod {y u : Nat} (hy : isW (y : Int) = true) (hu : u < 2 ^ (8 * y)) : (sx y u % 18446744073709551616).toNat % 2 ^ (8 * y) = u % 2 ^ (8 * y) := by
  rcases w_cases hy with rfl | rfl | rfl | rfl <;> unfold sx <;> split <;> simp only [Nat.reduceMul, Nat.reduceSub, Nat.reducePow] at * <;> omega
theorem sx_bd {y u : Nat} (hy : isW (y : Int) = true) (hu : u < 2 ^ (8 * y)) : -9223372036854775808 ≤ sx y u ∧ sx y u ≤ 9223372036854775807 := by
  rcases w_cases hy with rfl | rfl | rfl | rfl <;> unfold sx <;> split <;> simp only [Nat.reduceMul, Nat.reduceSub, Nat.reducePow] at * <;> omega
theorem u_small {y u : Nat} (hy : isW (y : Int) = true) (hu : u < 2 ^ (8 * y)) : (u : Int) < 18446744073709551616 := by
  rcases w_cases hy with rfl | rfl | rfl | rfl <;> simp only [Nat.reduceMul, Nat.reducePow] at * <;> omega
theorem fitsU_of {y u : Nat} (hu : u < 2 ^ (8 * y)) : fitsU y u = true := decide_eq_true (.inr hu)
theorem sx_bytes {y u : Nat} (hy : isW (y : Int) = true) (hu : u < 2 ^ (8 * y)) : leBytes y (sx y u % 18446744073709551616).toNat = leBytes y u := leBytes_congr (sx_mod hy hu)

theorem fits_lt {y u : Nat} (h : fitsU y u = true) (hu : (u : Int) < 18446744073709551616) : u < 2 ^ (8 * y) := by
  rcases of_decide_eq_true h with rfl | h
  · simp only [Nat.reduceMul, Nat.reducePow]; omega
  · exact h
/-! a stretch of a list replaced -/
theorem mid_len {l p : List UInt8} {k y : Nat} (hp : p.length = y) (hk : k + y ≤ l.length) : (l.take k ++ p ++ l.drop (k + y)).length = l.length := by simp; omega
theorem mid_part {l p : List UInt8} {k y : Nat} (hp : p.length = y) (hk : k + y ≤ l.length) : ((l.take k ++ p ++ l.drop (k + y)).drop k).take y = p := by
  rw [List.append_assoc, List.drop_left' (by simp; omega), List.take_left' hp]
theorem mid_back {l p : List UInt8} {k y : Nat} (hp : p.length = y) (hk : k + y ≤ l.length) : (l.take k ++ p ++ l.drop (k + y)).take k ++ (l.drop k).take y ++ (l.take k ++ p ++ l.drop (k + y)).drop (k + y) = l := by
  have e1 : (l.take k ++ p ++ l.drop (k + y)).take k = l.take k := by rw [List.append_assoc, List.take_left' (by simp; omega)]
  have e2 : (l.take k ++ p ++ l.drop (k + y)).drop (k + y) = l.drop (k + y) := by rw [List.drop_left' (by simp; omega)]
  rw [e1, e2, List.append_assoc, show l.drop (k + y) = (l.drop k).drop y from by rw [List.drop_drop], List.take_append_drop, List.take_append_drop]
theorem mid_get {l p : List UInt8} {k y i : Nat} (hp : p.length = y) (hk : k + y ≤ l.length) (hi : i < k ∨ k + y ≤ i) : (l.take k ++ p ++ l.drop (k + y))[i]? = l[i]? := by
  rcases hi with hi | hi
  · rw [List.append_assoc, List.getElem?_append_left (by simp; omega), List.getElem?_take, if_pos hi]
  · rw [List.getElem?_append_right (by simp; omega), List.getElem?_drop]
    congr 1
    simp
    omega
end Go.Proofs.YtjhigmgkmmjlfaaGreat

namespace Go.Proofs.YtjhigmgkmmjlfaaGreat
open Go.RowKit Go.Acc
def top63 (u : Nat) : Bool := decide (9223372036854775808 ≤ u)
def intV (l : List UInt8) (p q t v : Int) : Int := if scN l p q t v = true then -(scU l p q t v : Int) else if top63 (scU l p q t v) = true then 0 else scU l p q t v
def intE (l : List UInt8) (p q t v : Int) : Int := if plcE l p q t v ≠ 0 then plcE l p q t v else if scN l p q t v = true then 0 else if top63 (scU l p q t v) = true then 10 else 0
def uintV (l : List UInt8) (p q t v : Int) : Nat := if scN l p q t v = true then 0 else scU l p q t v
def uintE (l : List UInt8) (p q t v : Int) : Int := if plcE l p q t v ≠ 0 then plcE l p q t v else if scN l p q t v = true then 10 else 0
def boolV (l : List UInt8) (p q t v : Int) : Bool := (scU l p q t v : Int) != 0
theorem rdU_lt (l : List UInt8) (t a x : Int) : (rdU l t a x : Int) < 18446744073709551616 := by
  have h1 := loadU_64 l a x
  have h2 := loadI_64 l a x
  unfold rdU
  split
  · omega
  · split
    · omega
    · split <;> omega
theorem scU_lt (l : List UInt8) (p q t v : Int) : (scU l p q t v : Int) < 18446744073709551616 := by
  unfold scU
  split
  · exact rdU_lt ..
  · omega
theorem sc_neg {l : List UInt8} {p q t v : Int} (h : scN l p q t v = true) : plcE l p q t v = 0 ∧ 1 ≤ scU l p q t v ∧ (scU l p q t v : Int) ≤ 9223372036854775808 := by
  unfold scN at h
  rw [Bool.and_eq_true, decide_eq_true_eq] at h
  obtain ⟨h1, h2⟩ := h
  refine ⟨h1, ?_⟩
  unfold scU
  rw [if_pos h1]
  unfold rdN at h2
  rw [decide_eq_true_eq] at h2
  have h3 := loadI_64 l (plcA l p q t v) (plcW l p q t v)
  unfold rdU
  rw [if_neg (by omega), if_neg (by omega), if_pos h2.1]
  omega
theorem sc_bad {l : List UInt8} {p q t v : Int} (h : plcE l p q t v ≠ 0) : scN l p q t v = false ∧ scU l p q t v = 0 := by
  unfold scN scU
  rw [if_neg h, decide_eq_false h]
  exact ⟨rfl, rfl⟩
theorem wrap_neg (u : Nat) (h1 : 1 ≤ u) (h2 : (u : Int) ≤ 9223372036854775808) : wrap64 (IntKind.u64.wrap (-(u : Int))) = -(u : Int) := by
  rw [IntKind.wrap_u64]
  unfold wrap64
  omega
theorem top_yes {u : Nat} (h : top63 u = true) : decide ((9223372036854775808 : Int) ≤ (u : Int)) = true := by
  unfold top63 at h
  rw [decide_eq_true_eq] at h ⊢
  omega
theorem top_no {u : Nat} (h : top63 u = false) : decide ((9223372036854775808 : Int) ≤ (u : Int)) = false := by
  unfold top63 at h
  rw [decide_eq_false_iff_not] at h ⊢
  omega
theorem wrap_top {u : Nat} (h : top63 u = false) : wrap64 (u : Int) = u := by
  unfold top63 at h
  rw [decide_eq_false_iff_not] at h
  exact wrap64_in _ (by omega)
set_option maxRecDepth 100000 in
set_option maxHeartbeats 1000000 in
theorem sint_spec (A : Option Addr) (n c : Nat) (p q t v : Int) (l : List UInt8) (w : World) (h : IsB w A n l) (hc : n ≤ c) (hn : n ≤ 9223372036854775807) :
    Calls Tryz.prog 38 #[.slice A n c, .agg #[.int .i64 p, .int .i64 q, .int .i64 t, .int .i64 v]] w fun e w' => e = .returned (.tuple #[.int .i64 (intV l p q t v), .int .i64 (intE l p q t v)]) ∧ Below w.heap.size w w' := by
  have hlen := h.1
  subst hlen
  have HL := Lib.hid (h.alloc (.cells #[.int .i64 p, .int .i64 q, .int .i64 t, .int .i64 v] 36))
  have HB := Lib.hid ((Below.refl w.heap.size w).alloc (Nat.le_refl _) (.cells #[.int .i64 p, .int .i64 q, .int .i64 t, .int .i64 v] 36))
  obtain ⟨N, hN⟩ : ∃ x, scN l p q t v = x := ⟨_, rfl⟩
  obtain ⟨U, hU⟩ : ∃ x, scU l p q t v = x := ⟨_, rfl⟩
  obtain ⟨E, hE⟩ : ∃ x, plcE l p q t v = x := ⟨_, rfl⟩
  have hneg : N = true → E = 0 ∧ 1 ≤ U ∧ (U : Int) ≤ 9223372036854775808 := by
    intro e
    have := sc_neg (hN.trans e)
    rwa [hU, hE] at this
  have hbad : E ≠ 0 → N = false ∧ U = 0 := by
    intro e
    have := sc_bad (l := l) (p := p) (q := q) (t := t) (v := v) (by rwa [hE])
    rwa [hN, hU] at this
  have HN := Lib.hid hN
  have HU := Lib.hid hU
  have HE := Lib.hid hE
  have HNEG := Shut.mk hneg
  have HBAD := Shut.mk hbad
  clear hN hU hE hneg hbad h
  go_enter Tryz.func38, Tryz.ntmps38
  go_wp2_with fail
  go_at_call 69
  refine (read_spec A _ c p q t v l _ HL.out hc hn).mono ?_
  rw [HN.out, HU.out, HE.out]
  unfold valV
  rintro e w1 ⟨rfl, hb⟩
  replace HB := Lib.hid ((pure_below HB.out hb).alloc (pure_below HB.out hb).size (.cells #[.bool N, .int .u64 (U : Int)] 109))
  clear hb HL
  by_cases he : E = 0
  · subst he
    cases N with
    | true =>
      have hw := HNEG.out rfl
      have hw2 := wrap_neg U hw.2.1 hw.2.2
      clear hw
      go_wp2
      go_ret2
      unfold intV intE
      rw [HN.out, HU.out, HE.out]
      exact ⟨ret_t2 hw2 rfl, HB.out⟩
    | false =>
      cases ht : top63 U with
      | true =>
        have HT := Lib.hid ht
        have hd := top_yes ht
        clear ht
        go_wp2
        go_ret2
        unfold intV intE
        rw [HN.out, HU.out, HE.out, HT.out]
        exact ⟨rfl, HB.out⟩
      | false =>
        have HT := Lib.hid ht
        have hd := top_no ht
        have hw2 := wrap_top ht
        clear ht
        go_wp2
        go_ret2
        unfold intV intE
        rw [HN.out, HU.out, HE.out, HT.out]
        exact ⟨ret_t2 hw2 rfl, HB.out⟩
  · obtain ⟨rfl, rfl⟩ := HBAD.out he
    have hne : (E != 0) = true := by simpa using he
    have HNE := Lib.hid he
    clear he
    go_wp2
    go_ret2
    unfold intV intE
    rw [HN.out, HU.out, HE.out, if_pos HNE.out]
    exact ⟨rfl, HB.out⟩
set_option maxRecDepth 100000 in
set_option maxHeartbeats 1000000 in
theorem suint_spec (A : Option Addr) (n c : Nat) (p q t v : Int) (l : List UInt8) (w : World) (h : IsB w A n l) (hc : n ≤ c) (hn : n ≤ 9223372036854775807) :
    Calls Tryz.prog 39 #[.slice A n c, .agg #[.int .i64 p, .int .i64 q, .int .i64 t, .int .i64 v]] w fun e w' => e = .returned (.tuple #[.int .u64 (uintV l p q t v : Nat), .int .i64 (uintE l p q t v)]) ∧ Below w.heap.size w w' := by
  have hlen := h.1
  subst hlen
  have HL := Lib.hid (h.alloc (.cells #[.int .i64 p, .int .i64 q, .int .i64 t, .int .i64 v] 36))
  have HB := Lib.hid ((Below.refl w.heap.size w).alloc (Nat.le_refl _) (.cells #[.int .i64 p, .int .i64 q, .int .i64 t, .int .i64 v] 36))
  obtain ⟨N, hN⟩ : ∃ x, scN l p q t v = x := ⟨_, rfl⟩
  obtain ⟨U, hU⟩ : ∃ x, scU l p q t v = x := ⟨_, rfl⟩
  obtain ⟨E, hE⟩ : ∃ x, plcE l p q t v = x := ⟨_, rfl⟩
  have hneg : N = true → E = 0 ∧ 1 ≤ U ∧ (U : Int) ≤ 9223372036854775808 := by
    intro e
    have := sc_neg (hN.trans e)
    rwa [hU, hE] at this
  have hbad : E ≠ 0 → N = false ∧ U = 0 := by
    intro e
    have := sc_bad (l := l) (p := p) (q := q) (t := t) (v := v) (by rwa [hE])
    rwa [hN, hU] at this
  have HN := Lib.hid hN
  have HU := Lib.hid hU
  have HE := Lib.hid hE
  have HNEG := Shut.mk hneg
  have HBAD := Shut.mk hbad
  clear hN hU hE hneg hbad h
  go_enter Tryz.func39, Tryz.ntmps39
  go_wp2_with fail
  go_at_call 69
  refine (read_spec A _ c p q t v l _ HL.out hc hn).mono ?_
  rw [HN.out, HU.out, HE.out]
  unfold valV
  rintro e w1 ⟨rfl, hb⟩
  replace HB := Lib.hid ((pure_below HB.out hb).alloc (pure_below HB.out hb).size (.cells #[.bool N, .int .u64 (U : Int)] 109))
  clear hb HL
  by_cases he : E = 0
  · subst he
    cases N with
    | true =>
      go_wp2
      go_ret2
      unfold uintV uintE
      rw [HN.out, HU.out, HE.out]
      exact ⟨rfl, HB.out⟩
    | false =>
      go_wp2
      go_ret2
      unfold uintV uintE
      rw [HN.out, HU.out, HE.out]
      exact ⟨rfl, HB.out⟩
  · obtain ⟨rfl, rfl⟩ := HBAD.out he
    have hne : (E == 0) = false := by simpa using he
    have HNE := Lib.hid he
    clear he
    go_wp2
    go_ret2
    unfold uintV uintE
    rw [HN.out, HU.out, HE.out, if_pos HNE.out]
    exact ⟨rfl, HB.out⟩
set_option maxRecDepth 100000 in
set_option maxHeartbeats 1000000 in
theorem sbool_spec (A : Option Addr) (n c : Nat) (p q t v : Int) (l : List UInt8) (w : World) (h : IsB w A n l) (hc : n ≤ c) (hn : n ≤ 9223372036854775807) :
    Calls Tryz.prog 30 #[.slice A n c, .agg #[.int .i64 p, .int .i64 q, .int .i64 t, .int .i64 v]] w fun e w' => e = .returned (.tuple #[.bool (boolV l p q t v), .int .i64 (plcE l p q t v)]) ∧ Below w.heap.size w w' := by
  have hlen := h.1
  subst hlen
  have HL := Lib.hid (h.alloc (.cells #[.int .i64 p, .int .i64 q, .int .i64 t, .int .i64 v] 36))
  have HB := Lib.hid ((Below.refl w.heap.size w).alloc (Nat.le_refl _) (.cells #[.int .i64 p, .int .i64 q, .int .i64 t, .int .i64 v] 36))
  obtain ⟨N, hN⟩ : ∃ x, scN l p q t v = x := ⟨_, rfl⟩
  obtain ⟨U, hU⟩ : ∃ x, scU l p q t v = x := ⟨_, rfl⟩
  obtain ⟨E, hE⟩ : ∃ x, plcE l p q t v = x := ⟨_, rfl⟩
  have hneg : N = true → E = 0 ∧ 1 ≤ U ∧ (U : Int) ≤ 9223372036854775808 := by
    intro e
    have := sc_neg (hN.trans e)
    rwa [hU, hE] at this
  have hbad : E ≠ 0 → N = false ∧ U = 0 := by
    intro e
    have := sc_bad (l := l) (p := p) (q := q) (t := t) (v := v) (by rwa [hE])
    rwa [hN, hU] at this
  have HN := Lib.hid hN
  have HU := Lib.hid hU
  have HE := Lib.hid hE
  have HNEG := Shut.mk hneg
  have HBAD := Shut.mk hbad
  clear hN hU hE hneg hbad h
  go_enter Tryz.func30, Tryz.ntmps30
  go_wp2_with fail
  go_at_call 69
  refine (read_spec A _ c p q t v l _ HL.out hc hn).mono ?_
  rw [HN.out, HU.out, HE.out]
  unfold valV
  rintro e w1 ⟨rfl, hb⟩
  replace HB := Lib.hid ((pure_below HB.out hb).alloc (pure_below HB.out hb).size (.cells #[.bool N, .int .u64 (U : Int)] 109))
  clear hb HL
  by_cases he : E = 0
  · subst he
    go_wp2
    go_ret2
    unfold boolV
    rw [HU.out, HE.out]
    exact ⟨rfl, HB.out⟩
  · go_wp2
    go_ret2
    unfold boolV
    rw [HU.out, HE.out]
    exact ⟨rfl, HB.out⟩
end Go.Proofs.YtjhigmgkmmjlfaaGreat

namespace Go.Proofs.YtjhigmgkmmjlfaaGreat
open Go.RowKit Go.Acc
theorem isS_67 {t : Int} (h : isS t = true) (hi : inlineT t = false) : t = 6 ∨ t = 7 := by
  rcases rd_cases h with rfl | rfl | rfl | rfl | rfl | rfl
  · exact absurd hi (by decide)
  · exact absurd hi (by decide)
  · exact absurd hi (by decide)
  · exact .inl rfl
  · exact .inr rfl
  · exact absurd hi (by decide)
theorem isS_no {t : Int} (h : isS t = false) : (t != 6) = true ∧ (t != 7) = true := by
  constructor
  · rw [bne_iff_ne]; rintro rfl; exact absurd h (by decide)
  · rw [bne_iff_ne]; rintro rfl; exact absurd h (by decide)
theorem ret_b2 {k : IntKind} {s s' : Bool} {a b : Int} {v : Value} (h : s = s') (h' : a = b) : Ending.returned (.tuple #[.bool s, .int k a, v]) = .returned (.tuple #[.bool s', .int k b, v]) := by rw [h, h']
end Go.Proofs.YtjhigmgkmmjlfaaGreat

namespace Go.Proofs.YtjhigmgkmmjlfaaGreat
open Go.RowKit Go.Acc
theorem top_yes2 {u : Nat} (h : top63 u = true) : decide ((9223372036854775807 : Int) < (u : Int)) = true := by
  unfold top63 at h
  rw [decide_eq_true_eq] at h ⊢
  omega
theorem top_no2 {u : Nat} (h : top63 u = false) : decide ((9223372036854775807 : Int) < (u : Int)) = false := by
  unfold top63 at h
  rw [decide_eq_false_iff_not] at h ⊢
  omega
theorem wrap_back (u : Nat) (h1 : 1 ≤ u) (h2 : (u : Int) ≤ 9223372036854775808) : wrap64 (wrap64 (-wrap64 ((u : Int) - 1)) - 1) = -(u : Int) := by
  unfold wrap64
  omega
end Go.Proofs.YtjhigmgkmmjlfaaGreat

namespace Go.Proofs.YtjhigmgkmmjlfaaGreat
open Go.ChangeShapes Go.WideShapes Go.ChangeAt Go.RowKit Go.Acc
theorem acc_own : ownKnob Tryz.prog.godebug = none := by kernel_rfl
theorem acc_laidOut : laidOutB Tryz.prog = true := by kernel_rfl
section
variable {H : Type} {enc : TypeId × Value → H} {W : World} {base : Nat} {spare : Nat → Bool} {held : Bool}
/-- A slice of bytes, read. -/
theorem bytes_read {fuel : Nat} {v : Value} {x : DataW H × List MemPlace} (h : DataW.trod enc Tryz.prog W base spare held fuel 29 [v] = some x) :
    ∃ A n c l, v = .slice A n c ∧ IsB W A n l ∧ n ≤ c ∧ n ≤ 9223372036854775807 := by
  rcases open_ints Tryz.underlying29 Tryz.underlying5 (by kernel_rfl) h with ⟨e, _⟩ | ⟨a, n, c, zs, e, _, hl, hm, hz, _, hcell, hwf⟩
  · obtain rfl : v = .slice none 0 0 := by simpa using e
    exact ⟨none, 0, 0, [], rfl, Is.nil _ _, by omega, by omega⟩
  · obtain rfl : v = .slice (some a) n c := by simpa using e
    simp only [maxLen] at hm
    have hzn : n ≤ zs.length := by rw [hz]; split <;> omega
    obtain ⟨l, hl', _⟩ := is_of_elems (f := bc) (sz := 1) bc_len (by omega) (w := W) (a := a) (n := n) (fun _ => True) (fun i hi => by
      have hc := hcell i (by omega)
      have hb := u8_bd (hwf (zs.getD i 0) (by rw [List.getD_eq_getElem?_getD, List.getElem?_eq_getElem (show i < zs.length by omega)]; exact List.getElem_mem _))
      refine ⟨UInt8.ofNat (zs.getD i 0).toNat, trivial, fun j hj => ?_⟩
      obtain rfl : j = 0 := by omega
      have e : ((UInt8.ofNat (zs.getD i 0).toNat).toNat : Int) = zs.getD i 0 := by rw [UInt8.toNat_ofNat']; omega
      rw [Nat.mul_one, Nat.add_zero, hc]
      show _ = some (Value.int .u8 _)
      rw [e])
    exact ⟨some a, n, c, l, rfl, hl', hl, by omega⟩
set_option maxRecDepth 100000 in
/-- An argument that is a slice of bytes. -/
theorem bytes_arg {v : Value} {d : DataW H} {p : List MemPlace} (k : Value.okWide Tryz.prog W .any base 29 v) (h : DataW.Trod enc Tryz.prog W 0 (fun _ => true) true 29 v d p) :
    ∃ A n c l, v = .slice A n c ∧ IsB W A n l ∧ n ≤ c ∧ n ≤ 9223372036854775807 := by
  obtain ⟨_, _, _, rfl⟩ := okWide_slice Tryz.underlying29 k
  obtain ⟨f, hf⟩ := h
  exact bytes_read hf
set_option maxRecDepth 100000 in
theorem int_arg {v : Value} {d : DataW H} {p : List MemPlace} (k : Value.okWide Tryz.prog W .any base 3 v) (h : DataW.Trod enc Tryz.prog W 0 (fun _ => true) true 3 v d p) :
    ∃ m : Int, v = .int .i64 m ∧ -9223372036854775808 ≤ m ∧ m ≤ 9223372036854775807 := by
  obtain ⟨m, rfl⟩ := okWide_int Tryz.underlying3 k
  obtain ⟨f, hf⟩ := h
  obtain ⟨m', e, _, hw⟩ := DataW.trod_int Tryz.underlying3 hf
  obtain rfl : m = m' := by simpa [Value.cells] using e
  exact ⟨m, rfl, i64_bd hw⟩
set_option maxRecDepth 100000 in
theorem u64_arg {v : Value} {d : DataW H} {p : List MemPlace} (k : Value.okWide Tryz.prog W .any base 22 v) (h : DataW.Trod enc Tryz.prog W 0 (fun _ => true) true 22 v d p) :
    ∃ u : Nat, v = .int .u64 u ∧ (u : Int) < 18446744073709551616 := by
  obtain ⟨m, rfl⟩ := okWide_int Tryz.underlying22 k
  obtain ⟨f, hf⟩ := h
  obtain ⟨m', e, _, hw⟩ := DataW.trod_int Tryz.underlying22 hf
  obtain rfl : m = m' := by simpa [Value.cells] using e
  have := u64_bd hw
  obtain ⟨u, rfl⟩ := Int.eq_ofNat_of_zero_le this.1
  exact ⟨u, rfl, by have := this.2; omega⟩
end
end Go.Proofs.YtjhigmgkmmjlfaaGreat

namespace Go.Proofs.YtjhigmgkmmjlfaaGreat
open Go.ChangeShapes Go.WideShapes Go.ChangeAt Go.RowKit Go.Acc
section
variable {H : Type} {enc : TypeId × Value → H} {W : World} {base : Nat} {spare : Nat → Bool} {held : Bool}
set_option maxRecDepth 100000 in
theorem ref_arg {v : Value} {d : DataW H} {ps : List MemPlace} (k : Value.okWide Tryz.prog W .any base 36 v) (h : DataW.Trod enc Tryz.prog W 0 (fun _ => true) true 36 v d ps) :
    ∃ p q t x : Int, v = .agg #[.int .i64 p, .int .i64 q, .int .i64 t, .int .i64 x] ∧ (-9223372036854775808 ≤ p ∧ p ≤ 9223372036854775807) ∧ (-9223372036854775808 ≤ q ∧ q ≤ 9223372036854775807) ∧ (-9223372036854775808 ≤ t ∧ t ≤ 9223372036854775807) ∧ (-9223372036854775808 ≤ x ∧ x ≤ 9223372036854775807) := by
  obtain ⟨v0, v1, v2, v3, y0, y1, y2, y3, n, rfl, _, _, t0, t1, t2, t3⟩ := Joins.open_agg4 Tryz.underlying36 (by kernel_rfl) (by kernel_rfl) k h
  obtain ⟨n0, e0, _, w0⟩ := DataW.trod_int Tryz.underlying3 t0
  obtain ⟨n1, e1, _, w1⟩ := DataW.trod_int Tryz.underlying3 t1
  obtain ⟨n2, e2, _, w2⟩ := DataW.trod_int Tryz.underlying3 t2
  obtain ⟨n3, e3, _, w3⟩ := DataW.trod_int Tryz.underlying3 t3
  obtain rfl : v0 = .int .i64 n0 := by simpa using e0
  obtain rfl : v1 = .int .i64 n1 := by simpa using e1
  obtain rfl : v2 = .int .i64 n2 := by simpa using e2
  obtain rfl : v3 = .int .i64 n3 := by simpa using e3
  exact ⟨n0, n1, n2, n3, rfl, i64_bd w0, i64_bd w1, i64_bd w2, i64_bd w3⟩
set_option maxRecDepth 100000 in
/-- The four cells of a reference inside an array. -/
theorem ref_cells {fuel : Nat} {v0 v1 v2 v3 : Value} {x : DataW H × List MemPlace} (h : DataW.trod enc Tryz.prog W base spare held fuel 36 [v0, v1, v2, v3] = some x) :
    ∃ p q t v : Int, v0 = .int .i64 p ∧ v1 = .int .i64 q ∧ v2 = .int .i64 t ∧ v3 = .int .i64 v ∧ (-9223372036854775808 ≤ p ∧ p ≤ 9223372036854775807) ∧ (-9223372036854775808 ≤ q ∧ q ≤ 9223372036854775807) ∧ (-9223372036854775808 ≤ t ∧ t ≤ 9223372036854775807) ∧ (-9223372036854775808 ≤ v ∧ v ≤ 9223372036854775807) := by
  obtain ⟨ys, n', _, _, _, hyl, hf⟩ := DataW.trod_struct Tryz.underlying36 h
  have hys : ys.length = 4 := hyl
  have hC : Tryz.prog.cellsOf 3 = 1 := by kernel_rfl
  have f0 : DataW.trod enc Tryz.prog W base spare held n' 3 (([v0, v1, v2, v3].drop 0).take (Tryz.prog.cellsOf 3)) = ys[0]? := hf 0 _ rfl
  have f1 : DataW.trod enc Tryz.prog W base spare held n' 3 (([v0, v1, v2, v3].drop 1).take (Tryz.prog.cellsOf 3)) = ys[1]? := hf 1 _ rfl
  have f2 : DataW.trod enc Tryz.prog W base spare held n' 3 (([v0, v1, v2, v3].drop 2).take (Tryz.prog.cellsOf 3)) = ys[2]? := hf 2 _ rfl
  have f3 : DataW.trod enc Tryz.prog W base spare held n' 3 (([v0, v1, v2, v3].drop 3).take (Tryz.prog.cellsOf 3)) = ys[3]? := hf 3 _ rfl
  have g0 : ys[0]? = some (ys[0]'(by omega)) := List.getElem?_eq_getElem _
  have g1 : ys[1]? = some (ys[1]'(by omega)) := List.getElem?_eq_getElem _
  have g2 : ys[2]? = some (ys[2]'(by omega)) := List.getElem?_eq_getElem _
  have g3 : ys[3]? = some (ys[3]'(by omega)) := List.getElem?_eq_getElem _
  rw [hC] at f0 f1 f2 f3
  obtain ⟨n0, e0, _, w0⟩ := DataW.trod_int Tryz.underlying3 (f0.trans g0)
  obtain ⟨n1, e1, _, w1⟩ := DataW.trod_int Tryz.underlying3 (f1.trans g1)
  obtain ⟨n2, e2, _, w2⟩ := DataW.trod_int Tryz.underlying3 (f2.trans g2)
  obtain ⟨n3, e3, _, w3⟩ := DataW.trod_int Tryz.underlying3 (f3.trans g3)
  injection e0 with e0
  injection e1 with e1
  injection e2 with e2
  injection e3 with e3
  exact ⟨n0, n1, n2, n3, e0, e1, e2, e3, i64_bd w0, i64_bd w1, i64_bd w2, i64_bd w3⟩
end
end Go.Proofs.YtjhigmgkmmjlfaaGreat

namespace Go.Proofs.YtjhigmgkmmjlfaaGreat
open Go.RowKit Go.Acc
theorem cut_run (A : Option Addr) (n c M : Nat) (h : M ≤ c) (w : World) : (Instr.sliceAt 29 (.slice A n c) none (some (.int .i64 M)) none).run Tryz.prog w = .ok (.slice A M c) w := by
  have ht : Tryz.prog.underlying 29 = some (.slice (Tryz.prog.elem 29)) := by kernel_rfl
  have hz : (sizeOf (Tryz.prog.elem 29)).run Tryz.prog w = .ok 1 w := by kernel_rfl
  rw [run_sliceAt_slice (h := ht), run_slice_h (ht := ht) (h0 := by omega) (h2 := by omega), hz]
  simp [Result.andThen, sliced]
  intro _
  cases A <;> simp [Addr.add]
theorem cut_facts (A : Option Addr) (n c B : Nat) (b : Int) (hb : b = B) (hc : n ≤ c) : ∃ M : Nat, M ≤ n ∧ M ≤ B ∧ (if b < (n : Int) then b else (n : Int)) = (M : Int) ∧
    ∀ w, (Instr.sliceAt 29 (.slice A n c) none (some (.int .i64 M)) none).run Tryz.prog w = .ok (.slice A M c) w := by
  subst hb
  by_cases h : n ≤ B
  · exact ⟨n, Nat.le_refl _, h, if_neg (by omega), fun w => cut_run A n c n hc w⟩
  · exact ⟨B, by omega, Nat.le_refl _, if_pos (by omega), fun w => cut_run A n c B (by omega) w⟩
/-- b[lo:hi], its address under one name. -/
theorem cut_any (A : Option Addr) (n c lo hi : Nat) (h1 : lo ≤ hi) (h2 : hi ≤ n) (hc : n ≤ c) : ∃ X, (∀ w, (Instr.sliceAt 29 (.slice A n c) (some (.int .i64 lo)) (some (.int .i64 hi)) none).run Tryz.prog w = .ok (.slice X (hi - lo) (c - lo)) w) ∧
    ∀ w l, IsB w A n l → IsB w X (hi - lo) ((l.drop lo).take (hi - lo)) := by
  refine ⟨if c = lo then A else A.map (·.add lo), fun w => ?_, fun w l h => ?_⟩
  · have ht : Tryz.prog.underlying 29 = some (.slice (Tryz.prog.elem 29)) := by kernel_rfl
    have hz : (sizeOf (Tryz.prog.elem 29)).run Tryz.prog w = .ok 1 w := by kernel_rfl
    rw [run_sliceAt_slice (h := ht), run_slice_lh (ht := ht) (h0 := by omega) (h1 := by omega) (h2 := by omega), hz]
    simp [Result.andThen, sliced]
  · split
    · have e : hi - lo = 0 := by omega
      rw [e, List.take_zero]
      exact Is.nil _ _
    · exact isb_part h (by omega)
/-- b[lo:hi:hi], its address under one name. -/
theorem cut_full (A : Option Addr) (n c lo hi : Nat) (h1 : lo ≤ hi) (h2 : hi ≤ n) (hc : n ≤ c) : ∃ X, (∀ w, (Instr.sliceAt 29 (.slice A n c) (some (.int .i64 lo)) (some (.int .i64 hi)) (some (.int .i64 hi))).run Tryz.prog w = .ok (.slice X (hi - lo) (hi - lo)) w) ∧
    ∀ w l, IsB w A n l → IsB w X (hi - lo) ((l.drop lo).take (hi - lo)) := by
  refine ⟨if hi = lo then A else A.map (·.add lo), fun w => ?_, fun w l h => ?_⟩
  · have ht : Tryz.prog.underlying 29 = some (.slice (Tryz.prog.elem 29)) := by kernel_rfl
    have hz : (sizeOf (Tryz.prog.elem 29)).run Tryz.prog w = .ok 1 w := by kernel_rfl
    rw [run_sliceAt_slice (h := ht), run_slice_lhm (ht := ht) (h0 := by omega) (h1 := by omega) (h2 := by omega) (h3 := by omega), hz]
    simp [Result.andThen, sliced]
  · split
    · have e : hi - lo = 0 := by omega
      rw [e, List.take_zero]
      exact Is.nil _ _
    · exact isb_part h (by omega)
end Go.Proofs.YtjhigmgkmmjlfaaGreat
