/-
  Package list: Span, Len.
-/
import Derived.Test.YtaigofpipoimkaaLiC
namespace Go.Proofs.Ytaigofpipoimkaa
open Go.RowKit Go.Acc
theorem ls_zero {l : List UInt8} {p q t v : Int} (h : lsE l p q t v ≠ 0) : lsFrom l p q t v = 0 ∧ lsAt l p q t v = 0 ∧ lsTo l p q t v = 0 ∧ lsLen l p q t v = 0 := by
  unfold lsFrom lsAt lsTo lsLen
  rw [if_neg h, if_neg h, if_neg h, if_neg h]
  exact ⟨rfl, rfl, rfl, rfl⟩
/-- The vector with its numbers under names. -/
theorem lsw_open {w w' : World} {A : Option Addr} {n c : Nat} {l : List UInt8} {p q t v : Int} {e : Ending} (h : LsW w A n c l p q t v e w') :
    ∃ S : Value, ∃ a0 a1 a2 a3 : Int, e = .returned (.tuple #[.agg #[S, .int .i64 a0, .int .i64 a1, .int .i64 a2, .int .i64 a3, .int .i64 (lsFrom l p q t v : Nat), .int .i64 (lsAt l p q t v : Nat), .int .i64 (lsTo l p q t v : Nat), .int .i64 (lsLen l p q t v : Nat)], .int .i64 (lsE l p q t v)]) ∧ S.oneCell' = true ∧
      (lsE l p q t v = 0 → S = .slice A n c ∧ a0 = p ∧ a1 = q ∧ a2 = t ∧ a3 = v) ∧ Below w.heap.size w w' := by
  obtain ⟨rfl, hb⟩ := h
  unfold lsVec
  by_cases he : lsE l p q t v = 0
  · rw [if_pos he]
    exact ⟨_, _, _, _, _, rfl, rfl, fun _ => ⟨rfl, rfl, rfl, rfl, rfl⟩, hb⟩
  · obtain ⟨e1, e2, e3, e4⟩ := ls_zero he
    rw [if_neg he, e1, e2, e3, e4]
    exact ⟨_, _, _, _, _, rfl, rfl, fun h => absurd h he, hb⟩
theorem ret_t4 {a b c d a' b' c' d' : Int} (h1 : a = a') (h2 : b = b') (h3 : c = c') (h4 : d = d') : Ending.returned (.tuple #[.int .i64 a, .int .i64 b, .int .i64 c, .int .i64 d]) = .returned (.tuple #[.int .i64 a', .int .i64 b', .int .i64 c', .int .i64 d']) := by rw [h1, h2, h3, h4]
set_option maxRecDepth 100000 in
set_option maxHeartbeats 1000000 in
theorem lspan_spec (A : Option Addr) (n c : Nat) (p q t v : Int) (l : List UInt8) (w : World) (h : IsB w A n l) (hc : n ≤ c) (hn : n ≤ 1099511627776) :
    Calls Try.prog 33 #[.slice A n c, .agg #[.int .i64 p, .int .i64 q, .int .i64 t, .int .i64 v]] w fun e w' => e = .returned (.tuple #[.int .i64 (lsFrom l p q t v : Nat), .int .i64 (lsAt l p q t v : Nat), .int .i64 (lsTo l p q t v : Nat), .int .i64 (lsE l p q t v)]) ∧ Below w.heap.size w w' := by
  have HL := Lib.hid (h.alloc (.cells #[.int .i64 p, .int .i64 q, .int .i64 t, .int .i64 v] 23))
  have HB := Lib.hid ((Below.refl w.heap.size w).alloc (Nat.le_refl _) (.cells #[.int .i64 p, .int .i64 q, .int .i64 t, .int .i64 v] 23))
  obtain ⟨nf, hnf⟩ : ∃ x, lsFrom l p q t v = x := ⟨_, rfl⟩
  obtain ⟨na, hna⟩ : ∃ x, lsAt l p q t v = x := ⟨_, rfl⟩
  obtain ⟨nt, hnt⟩ : ∃ x, lsTo l p q t v = x := ⟨_, rfl⟩
  obtain ⟨nl, hnl⟩ : ∃ x, lsLen l p q t v = x := ⟨_, rfl⟩
  obtain ⟨ne, hne⟩ : ∃ x, lsE l p q t v = x := ⟨_, rfl⟩
  have HNF := Lib.hid hnf
  have HNA := Lib.hid hna
  have HNT := Lib.hid hnt
  have HNL := Lib.hid hnl
  have HNE := Lib.hid hne
  clear h hnf hna hnt hnl hne
  go_enter Try.func33, Try.ntmps33
  go_wp2_with fail
  go_at_call 85
  refine (lfind_spec A n c p q t v l _ HL.out hc hn).mono ?_
  intro e w1 hpost
  obtain ⟨S, a0, a1, a2, a3, rfl, hS, _, hb⟩ := lsw_open hpost
  rw [HNF.out, HNA.out, HNT.out, HNL.out, HNE.out]
  have hstS := fun (W : World) (p : Addr) => run_store Try.prog W p S .plain hS
  replace HB := Lib.hid ((pure_below HB.out hb).alloc (pure_below HB.out hb).size (.cells #[S, .int .i64 a0, .int .i64 a1, .int .i64 a2, .int .i64 a3, .int .i64 (nf : Nat), .int .i64 (na : Nat), .int .i64 (nt : Nat), .int .i64 (nl : Nat)] 94))
  clear hb hpost HL hS
  go_wp2_with fail
  go_quiet (fail)
  go_wp2
  refine bodyPost_ret (v := .tuple #[.int .i64 (nf : Nat), .int .i64 (na : Nat), .int .i64 (nt : Nat), .int .i64 ne]) (by simp [results, Try.results33, go_sem]) rfl ⟨?_, below_drewN HB.out _⟩
  rw [HNF.out, HNA.out, HNT.out, HNE.out]
set_option maxRecDepth 100000 in
set_option maxHeartbeats 1000000 in
theorem llen_spec (A : Option Addr) (n c : Nat) (p q t v : Int) (l : List UInt8) (w : World) (h : IsB w A n l) (hc : n ≤ c) (hn : n ≤ 1099511627776) :
    Calls Try.prog 35 #[.slice A n c, .agg #[.int .i64 p, .int .i64 q, .int .i64 t, .int .i64 v]] w fun e w' => e = .returned (.tuple #[.int .i64 (lsLen l p q t v : Nat), .int .i64 (lsE l p q t v)]) ∧ Below w.heap.size w w' := by
  have HL := Lib.hid (h.alloc (.cells #[.int .i64 p, .int .i64 q, .int .i64 t, .int .i64 v] 23))
  have HB := Lib.hid ((Below.refl w.heap.size w).alloc (Nat.le_refl _) (.cells #[.int .i64 p, .int .i64 q, .int .i64 t, .int .i64 v] 23))
  obtain ⟨nf, hnf⟩ : ∃ x, lsFrom l p q t v = x := ⟨_, rfl⟩
  obtain ⟨na, hna⟩ : ∃ x, lsAt l p q t v = x := ⟨_, rfl⟩
  obtain ⟨nt, hnt⟩ : ∃ x, lsTo l p q t v = x := ⟨_, rfl⟩
  obtain ⟨nl, hnl⟩ : ∃ x, lsLen l p q t v = x := ⟨_, rfl⟩
  obtain ⟨ne, hne⟩ : ∃ x, lsE l p q t v = x := ⟨_, rfl⟩
  have HNF := Lib.hid hnf
  have HNA := Lib.hid hna
  have HNT := Lib.hid hnt
  have HNL := Lib.hid hnl
  have HNE := Lib.hid hne
  clear h hnf hna hnt hnl hne
  go_enter Try.func35, Try.ntmps35
  go_wp2_with fail
  go_at_call 85
  refine (lfind_spec A n c p q t v l _ HL.out hc hn).mono ?_
  intro e w1 hpost
  obtain ⟨S, a0, a1, a2, a3, rfl, hS, _, hb⟩ := lsw_open hpost
  rw [HNF.out, HNA.out, HNT.out, HNL.out, HNE.out]
  have hstS := fun (W : World) (p : Addr) => run_store Try.prog W p S .plain hS
  replace HB := Lib.hid ((pure_below HB.out hb).alloc (pure_below HB.out hb).size (.cells #[S, .int .i64 a0, .int .i64 a1, .int .i64 a2, .int .i64 a3, .int .i64 (nf : Nat), .int .i64 (na : Nat), .int .i64 (nt : Nat), .int .i64 (nl : Nat)] 94))
  clear hb hpost HL hS
  go_wp2
  go_ret2
  rw [HNL.out, HNE.out]
  exact ⟨rfl, HB.out⟩
end Go.Proofs.Ytaigofpipoimkaa
