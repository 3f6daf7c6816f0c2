/-
  Package ref and its reference: Kind, May.
-/
import Derived.Test.YtogaifggpfipaaaRefA
import Derived.Laws.EntriesVeiled
namespace Go.Proofs.Ytogaifggpfipaaa
open Go.RowKit Go.Acc
def kCells : Array Value := (tKinds.map fun k => Value.int .i64 k).toArray
def kZero : Array Value := Array.replicate 37 (Value.int .i64 0)
set_option maxHeartbeats 1000000 in
theorem may1_spec (b : Nat) (p q t v : Int) (w : World) (hK : Blk w b 24 #[.int .i64 p, .int .i64 q, .int .i64 t, .int .i64 v]) : Calls Try.prog 74 #[.pointer (some ⟨b, 0, none⟩)] w fun e w' => e = .returned (.bool (formed q t v)) ∧ Below w.heap.size w w' := by
  have c2 := cell2 hK
  have HK := Lib.hid hK
  clear hK
  cases hl : legalT t with
  | false =>
    have HL := Lib.hid hl
    have HF := Lib.hid (show formed q t v = false by unfold formed; rw [hl]; rfl)
    rw [HF.out]
    clear hl
    go_enter Try.func74, Try.ntmps74
    go_wp2_with fail
    go_at_call 75
    refine (legal_spec t _).mono ?_
    rw [HL.out]
    rintro e w1 ⟨rfl, hb⟩
    have HB := Lib.hid hb
    clear hb
    go_wp2
    go_ret
    exact ⟨rfl, HB.out⟩
  | true =>
    have HL := Lib.hid hl
    have HF := Lib.hid (show formed q t v = (isW q && isW v) by unfold formed; rw [hl]; rfl)
    rw [HF.out]
    clear hl
    go_enter Try.func74, Try.ntmps74
    go_wp2_with fail
    go_at_call 75
    refine (legal_spec t _).mono ?_
    rw [HL.out]
    rintro e w1 ⟨rfl, hb⟩
    have HB := Lib.hid hb
    have c1 := cell1 (HK.out.pure hb)
    have c3 := cell3 (HK.out.pure hb)
    clear hb
    go_wp2_with fail
    go_at_call 76
    refine (iswidth_spec q _).mono ?_
    rintro e w1 ⟨rfl, rfl⟩
    cases hq : isW q with
    | false =>
      have HQ := Lib.hid hq
      clear hq
      go_wp2
      go_ret
      exact ⟨ret_bool (by rw [HQ.out]; rfl), HB.out⟩
    | true =>
      have HQ := Lib.hid hq
      clear hq
      go_wp2_with fail
      go_at_call 76
      refine (iswidth_spec v _).mono ?_
      rintro e w1 ⟨rfl, rfl⟩
      go_wp2
      go_ret
      exact ⟨ret_bool (by rw [HQ.out]; rfl), HB.out⟩
set_option maxHeartbeats 1000000 in
theorem may2_spec (a b : Nat) (A : Option Addr) (n c : Nat) (p q t v : Int) (w : World) (hn : n ≤ 9223372036854775807) (hA : Blk w a 22 #[.slice A n c]) (hK : Blk w b 24 #[.int .i64 p, .int .i64 q, .int .i64 t, .int .i64 v]) :
    Calls Try.prog 77 #[.pointer (some ⟨a, 0, none⟩), .pointer (some ⟨b, 0, none⟩)] w fun e w' => e = .returned (.bool (inB n p q)) ∧ w = w' := by
  have c0 := cell0 hK
  have c1 := cell1 hK
  have a0 : w.cell? ⟨a, 0, none⟩ = some (.slice A n c) := hA.cell 0
  clear hK hA
  go_enter Try.func77, Try.ntmps77
  go_wp2_with fail
  go_at_call 60
  refine (inside_spec A n c p q _ hn).mono ?_
  rintro e w1 ⟨rfl, rfl⟩
  go_wp2
  go_ret
  exact ⟨rfl, rfl⟩
set_option maxHeartbeats 1000000 in
theorem may_spec (A : Option Addr) (n c : Nat) (p q t v : Int) (w : World) (hn : n ≤ 9223372036854775807) : Calls Try.prog 39 #[.slice A n c, .agg #[.int .i64 p, .int .i64 q, .int .i64 t, .int .i64 v]] w fun e w' => e = .returned (.int .i64 (mayE n p q t v)) ∧ Below w.heap.size w w' := by
  have HA := Lib.hid ((Blk.new w 22 #[.slice A n c]).alloc (.cells #[.int .i64 p, .int .i64 q, .int .i64 t, .int .i64 v] 24))
  have HK := Lib.hid (Blk.new_ (w := w.alloc (.cells #[.slice A n c] 22)) (g := w.heap.size + 1) (by simp) 24 #[.int .i64 p, .int .i64 q, .int .i64 t, .int .i64 v])
  have HF1 := Try.call74
  have HF2 := Try.call77
  go_enter Try.func39, Try.ntmps39
  go_wp2
  refine wp_loop_rounds 3 ?_
  rw [rounds_succ]
  go_wp2_with fail
  refine (may1_spec (w.heap.size + 1) p q t v _ ((HK.out.alloc _).alloc _)).mono ?_
  rintro e w1 ⟨rfl, hb⟩
  have HL := Lib.hid ((Blk.new_ (w := ((w.alloc (.cells #[.slice A n c] 22)).alloc (.cells #[.int .i64 p, .int .i64 q, .int .i64 t, .int .i64 v] 24))) (g := w.heap.size + 1 + 1) (by simp) _ _).alloc _ |>.pure hb)
  have HX := Lib.hid ((Blk.new_ (g := w.heap.size + 1 + 1 + 1) (by simp) _ _).pure hb)
  have HA := Lib.hid (((HA.out.alloc _).alloc _).pure hb)
  have HK := Lib.hid (((HK.out.alloc _).alloc _).pure hb)
  have HB := Lib.hid (((((Below.refl w.heap.size w).alloc (Nat.le_refl _) _).alloc (by simp) _).alloc (by simp; omega) _).alloc (by simp; omega) _ |>.trans (hb.mono (by simp; omega)))
  have hs : w.heap.size + 1 + 1 + 1 < w1.heap.size := by have := HX.out.lt; omega
  clear hb
  cases hf : formed q t v with
  | false =>
    have HE := Lib.hid (show mayE n p q t v = 2 by unfold mayE; rw [hf]; rfl)
    have x1 := (HX.out.cell 1).trans (show _ = some (Value.int .i64 2) from rfl)
    clear hf HF1 HF2
    go_wp2
    go_ret
    exact ⟨ret_int HE.out.symm, HB.out⟩
  | true =>
    have HE := Lib.hid (show mayE n p q t v = if inB n p q = true then 0 else 6 by unfold mayE; rw [hf]; rfl)
    have l2 := HL.out.cell 2
    have l3 := HL.out.cell 3
    simp only [List.getElem?_toArray, List.getElem?_cons_succ, List.getElem?_cons_zero] at l2 l3
    clear hf
    go_wp2
    rw [rounds_succ]
    go_wp2_with fail
    refine (may2_spec w.heap.size (w.heap.size + 1) A n c p q t v _ hn (HA.out.alloc _) (HK.out.alloc _)).mono ?_
    rintro e w2 ⟨rfl, rfl⟩
    clear l2 l3
    cases hi : inB n p q with
    | true =>
      have HI := Lib.hid hi
      clear hi
      go_wp2
      rw [rounds_succ]
      go_wp2
      go_ret
      exact ⟨ret_int (by rw [HE.out, HI.out]; rfl), HB.out.alloc (by omega) _⟩
    | false =>
      have HI := Lib.hid hi
      clear hi
      go_wp2
      go_ret
      exact ⟨ret_int (by rw [HE.out, HI.out]; rfl), HB.out.alloc (by omega) _⟩
set_option maxHeartbeats 1000000 in
theorem rmay_spec (A : Option Addr) (n c : Nat) (p q t v : Int) (w : World) (hn : n ≤ 9223372036854775807) : Calls Try.prog 61 #[.slice A n c, .agg #[.int .i64 p, .int .i64 q, .int .i64 t, .int .i64 v]] w fun e w' => e = .returned (.int .i64 (mayE n p q t v)) ∧ Below w.heap.size w w' := by
  have HB := Lib.hid ((Below.refl w.heap.size w).alloc (Nat.le_refl _) (.cells #[.int .i64 p, .int .i64 q, .int .i64 t, .int .i64 v] 24))
  go_enter Try.func61, Try.ntmps61
  go_wp2_with fail
  go_at_call 95
  refine (rlegal_spec t _).mono ?_
  rintro e w1 ⟨rfl, rfl⟩
  cases hl : legalT t with
  | false =>
    have HE := Lib.hid (show mayE n p q t v = 2 by unfold mayE formed; rw [hl]; rfl)
    clear hl
    go_wp2
    go_ret
    exact ⟨ret_int HE.out.symm, HB.out⟩
  | true =>
    have HL := Lib.hid hl
    clear hl
    go_wp2_with fail
    go_at_call 81
    refine (wide_spec q _).mono ?_
    rintro e w1 ⟨rfl, rfl⟩
    cases hq : isW q with
    | false =>
      have HE := Lib.hid (show mayE n p q t v = 2 by unfold mayE formed; rw [HL.out, hq]; rfl)
      clear hq
      go_wp2
      go_ret
      exact ⟨ret_int HE.out.symm, HB.out⟩
    | true =>
      have HQ := Lib.hid hq
      clear hq
      go_wp2_with fail
      go_at_call 81
      refine (wide_spec v _).mono ?_
      rintro e w1 ⟨rfl, rfl⟩
      cases hv : isW v with
      | false =>
        have HE := Lib.hid (show mayE n p q t v = 2 by unfold mayE formed; rw [HL.out, HQ.out, hv]; rfl)
        clear hv
        go_wp2
        go_ret
        exact ⟨ret_int HE.out.symm, HB.out⟩
      | true =>
        have HE := Lib.hid (show mayE n p q t v = if inB n p q = true then 0 else 6 by unfold mayE formed; rw [HL.out, HQ.out, hv]; rfl)
        clear hv
        go_wp2_with fail
        go_at_call 64
        refine (rinside_spec A n c p q _ hn).mono ?_
        rintro e w1 ⟨rfl, rfl⟩
        cases hi : inB n p q with
        | true =>
          have HI := Lib.hid hi
          clear hi
          go_wp2
          go_ret
          exact ⟨ret_int (by rw [HE.out, HI.out]; rfl), HB.out⟩
        | false =>
          have HI := Lib.hid hi
          clear hi
          go_wp2
          go_ret
          exact ⟨ret_int (by rw [HE.out, HI.out]; rfl), HB.out⟩
end Go.Proofs.Ytogaifggpfipaaa
