/-
  Package ref and its reference: Inside, isWidth, Same.
-/
import Derived.Test.YtogaifggpfipaaaTagB
import Derived.Test.YtogaifggpfipaaaRefP
namespace Go.Proofs.Ytogaifggpfipaaa
open Go.RowKit Go.Acc
def codeE (x : Int) : Int := if isW x = true then 0 else 2
def codeW (x : Int) : Int := if x = 2 then 1 else if x = 4 then 2 else if x = 8 then 3 else 0
set_option maxHeartbeats 1000000 in
theorem code_spec (x : Int) (w : World) : Calls Try.prog 79 #[.int .i64 x] w fun e w' => e = .returned (.tuple #[.int .i64 (codeW x), .int .i64 (codeE x)]) ∧ w = w' := by
  cases hw : isW x with
  | true =>
    have hx := isW_iff.1 hw
    clear hw
    rcases hx with rfl | rfl | rfl | rfl
    all_goals
      go_enter Try.func79, Try.ntmps79
      go_wp2
      refine wp_loop_rounds 5 ?_
      repeat (rw [rounds_succ]; go_wp2)
      go_ret2
      exact ⟨rfl, rfl⟩
  | false =>
    have hx := isW_no.1 hw
    have H1 := Lib.hid (show codeW x = 0 by unfold codeW; rw [if_neg hx.2.1, if_neg hx.2.2.1, if_neg hx.2.2.2])
    have H2 := Lib.hid (show codeE x = 2 by unfold codeE; rw [hw]; rfl)
    rw [H1.out, H2.out]
    have e1 : (x == 1) = false := beq_eq_false_iff_ne.mpr hx.1
    have e2 : (x == 2) = false := beq_eq_false_iff_ne.mpr hx.2.1
    have e4 : (x == 4) = false := beq_eq_false_iff_ne.mpr hx.2.2.1
    have e8 : (x == 8) = false := beq_eq_false_iff_ne.mpr hx.2.2.2
    clear hx hw
    go_enter Try.func79, Try.ntmps79
    go_wp2
    refine wp_loop_rounds 5 ?_
    repeat (rw [rounds_succ]; go_wp2)
    go_ret2
    exact ⟨rfl, rfl⟩
theorem codeE_no {x : Int} (h : isW x = false) : codeE x = 2 := by unfold codeE; rw [h]; rfl
theorem codeE_yes {x : Int} (h : isW x = true) : codeE x = 0 := by unfold codeE; rw [h]; rfl
set_option maxHeartbeats 400000 in
theorem iswidth_spec (x : Int) (w : World) : Calls Try.prog 76 #[.int .i64 x] w fun e w' => e = .returned (.bool (isW x)) ∧ w = w' := by
  cases hw : isW x with
  | true =>
    have H := Lib.hid (codeE_yes hw)
    clear hw
    go_enter Try.func76, Try.ntmps76
    go_wp2_with fail
    go_at_call 79
    refine (code_spec _ _).mono ?_
    rw [H.out]
    rintro e w1 ⟨rfl, rfl⟩
    go_wp2
    go_ret
    exact ⟨rfl, rfl⟩
  | false =>
    have H := Lib.hid (codeE_no hw)
    clear hw
    go_enter Try.func76, Try.ntmps76
    go_wp2_with fail
    go_at_call 79
    refine (code_spec _ _).mono ?_
    rw [H.out]
    rintro e w1 ⟨rfl, rfl⟩
    go_wp2
    go_ret
    exact ⟨rfl, rfl⟩
set_option maxHeartbeats 1000000 in
theorem inside_spec (A : Option Addr) (n c : Nat) (a m : Int) (w : World) (hn : n ≤ 9223372036854775807) : Calls Try.prog 60 #[.slice A n c, .int .i64 a, .int .i64 m] w fun e w' => e = .returned (.bool (inB n a m)) ∧ w = w' := by
  by_cases h1 : 0 ≤ a
  · by_cases h2 : 0 ≤ m
    · by_cases h3 : a ≤ n
      · have ha : (0 : Int) ≤ (n : Int) - a := by omega
        by_cases h4 : m ≤ (n : Int) - a
        · have H := Lib.hid (show inB n a m = true from inB_iff.2 ⟨h1, h2, by omega⟩)
          go_enter Try.func60, Try.ntmps60
          go_wp2
          go_ret
          exact ⟨ret_bool H.out.symm, rfl⟩
        · have H := Lib.hid (show inB n a m = false from decide_eq_false (fun h => h4 (by omega)))
          have hd : decide (m ≤ (n : Int) - a) = false := decide_eq_false h4
          go_enter Try.func60, Try.ntmps60
          go_wp2
          go_ret
          exact ⟨ret_bool H.out.symm, rfl⟩
      · have H := Lib.hid (show inB n a m = false from decide_eq_false (fun h => h3 (by omega)))
        have hd : decide (a ≤ (n : Int)) = false := decide_eq_false h3
        go_enter Try.func60, Try.ntmps60
        go_wp2
        go_ret
        exact ⟨ret_bool H.out.symm, rfl⟩
    · have H := Lib.hid (show inB n a m = false from decide_eq_false (fun h => h2 (by omega)))
      have hd : decide (0 ≤ m) = false := decide_eq_false h2
      go_enter Try.func60, Try.ntmps60
      go_wp2
      go_ret
      exact ⟨ret_bool H.out.symm, rfl⟩
  · have H := Lib.hid (show inB n a m = false from decide_eq_false (fun h => h1 (by omega)))
    have hd : decide (0 ≤ a) = false := decide_eq_false h1
    go_enter Try.func60, Try.ntmps60
    go_wp2
    go_ret
    exact ⟨ret_bool H.out.symm, rfl⟩
set_option maxHeartbeats 1000000 in
theorem rinside_spec (A : Option Addr) (n c : Nat) (a m : Int) (w : World) (hn : n ≤ 9223372036854775807) : Calls Try.prog 64 #[.slice A n c, .int .i64 a, .int .i64 m] w fun e w' => e = .returned (.bool (inB n a m)) ∧ w = w' := by
  by_cases h1 : 0 ≤ a
  · by_cases h2 : 0 ≤ m
    · by_cases h3 : a ≤ n
      · have ha : (0 : Int) ≤ (n : Int) - a := by omega
        by_cases h4 : m ≤ (n : Int) - a
        · have H := Lib.hid (show inB n a m = true from inB_iff.2 ⟨h1, h2, by omega⟩)
          go_enter Try.func64, Try.ntmps64
          go_wp2
          go_ret
          exact ⟨ret_bool H.out.symm, rfl⟩
        · have H := Lib.hid (show inB n a m = false from decide_eq_false (fun h => h4 (by omega)))
          have hd : decide (m ≤ (n : Int) - a) = false := decide_eq_false h4
          go_enter Try.func64, Try.ntmps64
          go_wp2
          go_ret
          exact ⟨ret_bool H.out.symm, rfl⟩
      · have H := Lib.hid (show inB n a m = false from decide_eq_false (fun h => h3 (by omega)))
        have hd : decide (a ≤ (n : Int)) = false := decide_eq_false h3
        go_enter Try.func64, Try.ntmps64
        go_wp2
        go_ret
        exact ⟨ret_bool H.out.symm, rfl⟩
    · have H := Lib.hid (show inB n a m = false from decide_eq_false (fun h => h2 (by omega)))
      have hd : decide (0 ≤ m) = false := decide_eq_false h2
      go_enter Try.func64, Try.ntmps64
      go_wp2
      go_ret
      exact ⟨ret_bool H.out.symm, rfl⟩
  · have H := Lib.hid (show inB n a m = false from decide_eq_false (fun h => h1 (by omega)))
    have hd : decide (0 ≤ a) = false := decide_eq_false h1
    go_enter Try.func64, Try.ntmps64
    go_wp2
    go_ret
    exact ⟨ret_bool H.out.symm, rfl⟩

theorem cell0 {w : World} {g : Nat} {t : TypeId} {p q t' v : Value} (h : Blk w g t #[p, q, t', v]) : w.cell? ⟨g, 0, none⟩ = some p := h.cell 0
theorem cell1 {w : World} {g : Nat} {t : TypeId} {p q t' v : Value} (h : Blk w g t #[p, q, t', v]) : w.cell? ⟨g, 1, none⟩ = some q := h.cell 1
theorem cell2 {w : World} {g : Nat} {t : TypeId} {p q t' v : Value} (h : Blk w g t #[p, q, t', v]) : w.cell? ⟨g, 2, none⟩ = some t' := h.cell 2
theorem cell3 {w : World} {g : Nat} {t : TypeId} {p q t' v : Value} (h : Blk w g t #[p, q, t', v]) : w.cell? ⟨g, 3, none⟩ = some v := h.cell 3
end Go.Proofs.Ytogaifggpfipaaa
