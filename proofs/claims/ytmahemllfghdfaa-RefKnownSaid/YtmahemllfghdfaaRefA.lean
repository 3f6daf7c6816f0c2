/-
  Package ref and its reference: Inside, isWidth, Same.
-/
import Derived.Test.YtmahemllfghdfaaTagB
import Derived.Test.YtmahemllfghdfaaRefP
namespace Go.Proofs.Ytmahemllfghdfaa
open Go.RowKit Go.Acc
def codeE (x : Int) : Int := if isW x = true then 0 else 2
def codeW (x : Int) : Int := if x = 2 then 1 else if x = 4 then 2 else if x = 8 then 3 else 0
set_option maxHeartbeats 1000000 in
theorem code_spec (x : Int) (w : World) : Calls Try.prog 42 #[.int .i64 x] w fun e w' => e = .returned (.tuple #[.int .i64 (codeW x), .int .i64 (codeE x)]) ∧ w = w' := by
  cases hw : isW x with
  | true =>
    have hx := isW_iff.1 hw
    clear hw
    rcases hx with rfl | rfl | rfl | rfl
    all_goals
      go_enter Try.func42, Try.ntmps42
      go_wp2
      refine wp_loop_rounds 5 ?_
      repeat (rw [rounds_succ]; go_wp2)
      go_ret2
      exact ⟨rfl, rfl⟩
  | false =>
    have hx := isW_no.1 hw
    have H1 := Lib.hid (show codeW x = 0 by unfold codeW; rw [if_neg hx.2.1, if_neg hx.2.2.1, if_neg hx.2.2.2])
    have H2 := Lib.hid (show codeE x = 2 by unfold codeE; rw [hw]; rfl)
    rw [H1.out, H2.out]
    have e1 : (x == 1) = false := beq_eq_false_iff_ne.mpr hx.1
    have e2 : (x == 2) = false := beq_eq_false_iff_ne.mpr hx.2.1
    have e4 : (x == 4) = false := beq_eq_false_iff_ne.mpr hx.2.2.1
    have e8 : (x == 8) = false := beq_eq_false_iff_ne.mpr hx.2.2.2
    clear hx hw
    go_enter Try.func42, Try.ntmps42
    go_wp2
    refine wp_loop_rounds 5 ?_
    repeat (rw [rounds_succ]; go_wp2)
    go_ret2
    exact ⟨rfl, rfl⟩
theorem codeE_no {x : Int} (h : isW x = false) : codeE x = 2 := by unfold codeE; rw [h]; rfl
theorem codeE_yes {x : Int} (h : isW x = true) : codeE x = 0 := by unfold codeE; rw [h]; rfl
set_option maxHeartbeats 400000 in
theorem iswidth_spec (x : Int) (w : World) : Calls Try.prog 31 #[.int .i64 x] w fun e w' => e = .returned (.bool (isW x)) ∧ w = w' := by
  cases hw : isW x with
  | true =>
    have H := Lib.hid (codeE_yes hw)
    clear hw
    go_enter Try.func31, Try.ntmps31
    go_wp2_with fail
    go_at_call 42
    refine (code_spec _ _).mono ?_
    rw [H.out]
    rintro e w1 ⟨rfl, rfl⟩
    go_wp2
    go_ret
    exact ⟨rfl, rfl⟩
  | false =>
    have H := Lib.hid (codeE_no hw)
    clear hw
    go_enter Try.func31, Try.ntmps31
    go_wp2_with fail
    go_at_call 42
    refine (code_spec _ _).mono ?_
    rw [H.out]
    rintro e w1 ⟨rfl, rfl⟩
    go_wp2
    go_ret
    exact ⟨rfl, rfl⟩
set_option maxHeartbeats 1000000 in
theorem inside_spec (A : Option Addr) (n c : Nat) (a m : Int) (w : World) (hn : n ≤ 9223372036854775807) : Calls Try.prog 20 #[.slice A n c, .int .i64 a, .int .i64 m] w fun e w' => e = .returned (.bool (inB n a m)) ∧ w = w' := by
  by_cases h1 : 0 ≤ a
  · by_cases h2 : 0 ≤ m
    · by_cases h3 : a ≤ n
      · have ha : (0 : Int) ≤ (n : Int) - a := by omega
        by_cases h4 : m ≤ (n : Int) - a
        · have H := Lib.hid (show inB n a m = true from inB_iff.2 ⟨h1, h2, by omega⟩)
          go_enter Try.func20, Try.ntmps20
          go_wp2
          go_ret
          exact ⟨ret_bool H.out.symm, rfl⟩
        · have H := Lib.hid (show inB n a m = false from decide_eq_false (fun h => h4 (by omega)))
          have hd : decide (m ≤ (n : Int) - a) = false := decide_eq_false h4
          go_enter Try.func20, Try.ntmps20
          go_wp2
          go_ret
          exact ⟨ret_bool H.out.symm, rfl⟩
      · have H := Lib.hid (show inB n a m = false from decide_eq_false (fun h => h3 (by omega)))
        have hd : decide (a ≤ (n : Int)) = false := decide_eq_false h3
        go_enter Try.func20, Try.ntmps20
        go_wp2
        go_ret
        exact ⟨ret_bool H.out.symm, rfl⟩
    · have H := Lib.hid (show inB n a m = false from decide_eq_false (fun h => h2 (by omega)))
      have hd : decide (0 ≤ m) = false := decide_eq_false h2
      go_enter Try.func20, Try.ntmps20
      go_wp2
      go_ret
      exact ⟨ret_bool H.out.symm, rfl⟩
  · have H := Lib.hid (show inB n a m = false from decide_eq_false (fun h => h1 (by omega)))
    have hd : decide (0 ≤ a) = false := decide_eq_false h1
    go_enter Try.func20, Try.ntmps20
    go_wp2
    go_ret
    exact ⟨ret_bool H.out.symm, rfl⟩
set_option maxHeartbeats 1000000 in
theorem rinside_spec (A : Option Addr) (n c : Nat) (a m : Int) (w : World) (hn : n ≤ 9223372036854775807) : Calls Try.prog 25 #[.slice A n c, .int .i64 a, .int .i64 m] w fun e w' => e = .returned (.bool (inB n a m)) ∧ w = w' := by
  by_cases h1 : 0 ≤ a
  · by_cases h2 : 0 ≤ m
    · by_cases h3 : a ≤ n
      · have ha : (0 : Int) ≤ (n : Int) - a := by omega
        by_cases h4 : m ≤ (n : Int) - a
        · have H := Lib.hid (show inB n a m = true from inB_iff.2 ⟨h1, h2, by omega⟩)
          go_enter Try.func25, Try.ntmps25
          go_wp2
          go_ret
          exact ⟨ret_bool H.out.symm, rfl⟩
        · have H := Lib.hid (show inB n a m = false from decide_eq_false (fun h => h4 (by omega)))
          have hd : decide (m ≤ (n : Int) - a) = false := decide_eq_false h4
          go_enter Try.func25, Try.ntmps25
          go_wp2
          go_ret
          exact ⟨ret_bool H.out.symm, rfl⟩
      · have H := Lib.hid (show inB n a m = false from decide_eq_false (fun h => h3 (by omega)))
        have hd : decide (a ≤ (n : Int)) = false := decide_eq_false h3
        go_enter Try.func25, Try.ntmps25
        go_wp2
        go_ret
        exact ⟨ret_bool H.out.symm, rfl⟩
    · have H := Lib.hid (show inB n a m = false from decide_eq_false (fun h => h2 (by omega)))
      have hd : decide (0 ≤ m) = false := decide_eq_false h2
      go_enter Try.func25, Try.ntmps25
      go_wp2
      go_ret
      exact ⟨ret_bool H.out.symm, rfl⟩
  · have H := Lib.hid (show inB n a m = false from decide_eq_false (fun h => h1 (by omega)))
    have hd : decide (0 ≤ a) = false := decide_eq_false h1
    go_enter Try.func25, Try.ntmps25
    go_wp2
    go_ret
    exact ⟨ret_bool H.out.symm, rfl⟩

theorem cell0 {w : World} {g : Nat} {t : TypeId} {p q t' v : Value} (h : Blk w g t #[p, q, t', v]) : w.cell? ⟨g, 0, none⟩ = some p := h.cell 0
theorem cell1 {w : World} {g : Nat} {t : TypeId} {p q t' v : Value} (h : Blk w g t #[p, q, t', v]) : w.cell? ⟨g, 1, none⟩ = some q := h.cell 1
theorem cell2 {w : World} {g : Nat} {t : TypeId} {p q t' v : Value} (h : Blk w g t #[p, q, t', v]) : w.cell? ⟨g, 2, none⟩ = some t' := h.cell 2
theorem cell3 {w : World} {g : Nat} {t : TypeId} {p q t' v : Value} (h : Blk w g t #[p, q, t', v]) : w.cell? ⟨g, 3, none⟩ = some v := h.cell 3
set_option maxHeartbeats 1000000 in
theorem same_spec (p q t v p' q' t' v' : Int) (w : World) : Calls Try.prog 6 #[.agg #[.int .i64 p, .int .i64 q, .int .i64 t, .int .i64 v], .agg #[.int .i64 p', .int .i64 q', .int .i64 t', .int .i64 v']] w fun e w' => e = .returned (.bool (sameR p q t v p' q' t' v')) ∧ Below w.heap.size w w' := by
  go_enter Try.func6, Try.ntmps6
  go_wp2_with fail
  have HK := Lib.hid ((Blk.new w 23 #[.int .i64 p, .int .i64 q, .int .i64 t, .int .i64 v]).alloc (.cells #[.int .i64 p', .int .i64 q', .int .i64 t', .int .i64 v'] 23))
  have HJ := Lib.hid (Blk.new_ (w := w.alloc (.cells #[.int .i64 p, .int .i64 q, .int .i64 t, .int .i64 v] 23)) (g := w.heap.size + 1) (by simp) 23 #[.int .i64 p', .int .i64 q', .int .i64 t', .int .i64 v'])
  go_at_call 13
  refine (inline_spec t _).mono ?_
  rintro e w1 ⟨rfl, hb⟩
  have HB := Lib.hid (pure_trans (((Below.refl w.heap.size w).alloc (Nat.le_refl _) _).alloc (by simp) _) hb)
  have HK := Lib.hid (HK.out.pure hb)
  have HJ := Lib.hid (HJ.out.pure hb)
  have c0 := cell0 HK.out
  have c1 := cell1 HK.out
  have c2 := cell2 HK.out
  have c3 := cell3 HK.out
  have f3 := HK.out.frozen 3
  have d0 := cell0 HJ.out
  have d1 := cell1 HJ.out
  have d2 := cell2 HJ.out
  have d3 := cell3 HJ.out
  clear hb
  cases hi : inlineT t with
  | true =>
    have HI := Lib.hid hi
    clear hi
    go_wp2
    all_goals
      go_ret
      exact ⟨ret_bool (by have := HI.out; simp_all [sameR]), HB.out.setCell (Nat.le_refl _) _⟩
  | false =>
    have HI := Lib.hid hi
    clear hi
    by_cases h4 : t = 4
    · subst h4
      go_wp2
      all_goals
        go_ret
        exact ⟨ret_bool (by have := HI.out; simp_all [sameR]), HB.out.setCell (Nat.le_refl _) _⟩
    · have e4 : (t == 4) = false := beq_eq_false_iff_ne.mpr h4
      have H4 := Lib.hid h4
      clear h4
      go_wp2
      all_goals
        go_ret
        exact ⟨ret_bool (by have := HI.out; have := H4.out; simp_all [sameR]), HB.out⟩
set_option maxHeartbeats 1000000 in
theorem rsame_spec (p q t v p' q' t' v' : Int) (w : World) : Calls Try.prog 23 #[.agg #[.int .i64 p, .int .i64 q, .int .i64 t, .int .i64 v], .agg #[.int .i64 p', .int .i64 q', .int .i64 t', .int .i64 v']] w fun e w' => e = .returned (.bool (sameR p q t v p' q' t' v')) ∧ Below w.heap.size w w' := by
  by_cases h : p = p' ∧ q = q' ∧ t = t'
  · obtain ⟨rfl, rfl, rfl⟩ := h
    cases hi : inlineT t with
    | true =>
      have HI := Lib.hid hi
      clear hi
      go_enter Try.func23, Try.ntmps23
      go_wp2_with fail
      go_at_call 35
      refine (rinline_spec t _).mono ?_
      rw [HI.out]
      rintro e w1 ⟨rfl, rfl⟩
      go_wp2
      go_ret
      exact ⟨ret_bool (by have := HI.out; simp_all [sameR]), ((Below.refl w.heap.size w).alloc (Nat.le_refl _) _).alloc (by simp) _⟩
    | false =>
      have HI := Lib.hid hi
      clear hi
      by_cases h4 : t = 4
      · subst h4
        go_enter Try.func23, Try.ntmps23
        go_wp2_with fail
        go_at_call 35
        refine (rinline_spec 4 _).mono ?_
        rw [HI.out]
        rintro e w1 ⟨rfl, rfl⟩
        go_wp2
        go_ret
        exact ⟨ret_bool (by have := HI.out; simp_all [sameR]), ((Below.refl w.heap.size w).alloc (Nat.le_refl _) _).alloc (by simp) _⟩
      · have e4 : (t == 4) = false := beq_eq_false_iff_ne.mpr h4
        have H4 := Lib.hid h4
        clear h4
        go_enter Try.func23, Try.ntmps23
        go_wp2_with fail
        go_at_call 35
        refine (rinline_spec t _).mono ?_
        rw [HI.out]
        rintro e w1 ⟨rfl, rfl⟩
        go_wp2
        go_ret
        exact ⟨ret_bool (by have h1 := HI.out; have h2 := H4.out; rw [Bool.eq_iff_iff]; simp [sameR, h1, h2]), ((Below.refl w.heap.size w).alloc (Nat.le_refl _) _).alloc (by simp) _⟩
  · have H := Lib.hid h
    by_cases h1 : p = p'
    · by_cases h2 : q = q'
      · have e3 : (t != t') = true := by simp; intro e; exact h ⟨h1, h2, e⟩
        subst h1 h2
        clear h
        go_enter Try.func23, Try.ntmps23
        go_wp2
        go_ret
        exact ⟨ret_bool (by have := H.out; simp_all [sameR]), ((Below.refl w.heap.size w).alloc (Nat.le_refl _) _).alloc (by simp) _⟩
      · have e3 : (q != q') = true := by simpa using h2
        subst h1
        clear h h2
        go_enter Try.func23, Try.ntmps23
        go_wp2
        go_ret
        exact ⟨ret_bool (by have := H.out; simp_all [sameR]), ((Below.refl w.heap.size w).alloc (Nat.le_refl _) _).alloc (by simp) _⟩
    · have e3 : (p != p') = true := by simpa using h1
      have H1 := Lib.hid h1
      clear h h1
      go_enter Try.func23, Try.ntmps23
      go_wp2
      go_ret
      exact ⟨ret_bool (by have := H1.out; simp_all [sameR]), ((Below.refl w.heap.size w).alloc (Nat.le_refl _) _).alloc (by simp) _⟩
end Go.Proofs.Ytmahemllfghdfaa
