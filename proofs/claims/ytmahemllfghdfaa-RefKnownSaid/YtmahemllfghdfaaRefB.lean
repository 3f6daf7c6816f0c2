/-
  Package ref and its reference: Kind, May.
-/
import Derived.Test.YtmahemllfghdfaaRefA
import Derived.Laws.EntriesVeiled
namespace Go.Proofs.Ytmahemllfghdfaa
open Go.RowKit Go.Acc
def kCells : Array Value := (tKinds.map fun k => Value.int .i64 k).toArray
def kZero : Array Value := Array.replicate 37 (Value.int .i64 0)
theorem kinfo : (Try.prog.info? 44).map (fun i => (i.zero, i.size)) = some (some (Value.agg kZero), 37) := by kernel_rfl
set_option maxRecDepth 100000 in
set_option maxHeartbeats 1000000 in
theorem kinds_spec (w : World) : Calls Try.prog 17 #[] w fun e w' => e = .returned (.agg kCells) ∧ Below w.heap.size w w' := by
  have hz := (zero_of_info kinfo).1
  have hsz : kZero.size = 37 := rfl
  go_enter Try.func17, Try.ntmps17
  go_wp2
  refine upon_skip_of (w' := w.alloc (.cells kCells 44)) ?_ ?_
  · refine Eq.trans ?_ (run_storeCells_new (P := Try.prog) w 44 kZero kCells (by kernel_rfl) (by kernel_rfl) (by kernel_rfl))
    kernel_rfl
  · have hld := run_loadVar_new (P := Try.prog) w 44 kCells 37 3 Try.underlying44 (by kernel_rfl)
    clear hz hsz
    go_wp2
    refine bodyPost_ret (v := .agg kCells) ?_ rfl ⟨rfl, (Below.refl _ _).alloc (Nat.le_refl _) _⟩
    refine results_cell_row (fn := Try.f17) rfl _ _ w.heap.size 44 kCells (0, 0) _ ?_ (heap_alloc_last w _) Try.underlying44 rfl (by kernel_rfl)
    rfl
theorem kindex {t : Int} (ht : isT t = true) : ∀ w, (Instr.index 44 (.agg kCells) (.int .i64 t)).run Try.prog w = .ok (.int .i64 (kindT t)) w := by
  have h := isT_iff.1 ht
  have h : t = 0 ∨ t = 1 ∨ t = 2 ∨ t = 3 ∨ t = 4 ∨ t = 5 ∨ t = 6 ∨ t = 7 ∨ t = 8 ∨ t = 9 ∨ t = 10 ∨ t = 11 ∨ t = 12 ∨ t = 13 ∨ t = 14 ∨ t = 15 ∨ t = 16 ∨ t = 17 ∨ t = 18 ∨ t = 19 ∨ t = 20 ∨ t = 21 ∨ t = 22 ∨ t = 23 ∨ t = 24 ∨ t = 25 ∨ t = 26 ∨ t = 27 ∨ t = 28 ∨ t = 29 ∨ t = 30 ∨ t = 31 ∨ t = 32 ∨ t = 33 ∨ t = 34 ∨ t = 35 ∨ t = 36 := by omega
  rcases h with rfl | rfl | rfl | rfl | rfl | rfl | rfl | rfl | rfl | rfl | rfl | rfl | rfl | rfl | rfl | rfl | rfl | rfl | rfl | rfl | rfl | rfl | rfl | rfl | rfl | rfl | rfl | rfl | rfl | rfl | rfl | rfl | rfl | rfl | rfl | rfl | rfl
  all_goals
    intro w
    kernel_rfl
set_option maxHeartbeats 1000000 in
theorem kind_spec (p q t v : Int) (w : World) : Calls Try.prog 8 #[.agg #[.int .i64 p, .int .i64 q, .int .i64 t, .int .i64 v]] w fun e w' => e = .returned (.int .i64 (kindT t)) ∧ Below w.heap.size w w' := by
  have HK := Lib.hid (Blk.new w 23 #[.int .i64 p, .int .i64 q, .int .i64 t, .int .i64 v])
  cases hl : legalT t with
  | false =>
    have HL := Lib.hid hl
    rw [legal_kind hl]
    clear hl
    go_enter Try.func8, Try.ntmps8
    go_wp2_with fail
    go_at_call 16
    refine (legal_spec t _).mono ?_
    rw [HL.out]
    rintro e w1 ⟨rfl, hb⟩
    have HB := Lib.hid (pure_trans ((Below.refl w.heap.size w).alloc (Nat.le_refl _) _) hb)
    clear hb
    go_wp2
    go_ret
    exact ⟨rfl, HB.out⟩
  | true =>
    have HL := Lib.hid hl
    have hb := isT_iff.1 (legal_isT hl)
    have hb0 := hb.1
    have hb1 := hb.2
    have hidx := kindex (legal_isT hl)
    clear hl hb
    go_enter Try.func8, Try.ntmps8
    go_wp2_with fail
    go_at_call 16
    refine (legal_spec t _).mono ?_
    rw [HL.out]
    rintro e w1 ⟨rfl, hb⟩
    have HB := Lib.hid (pure_trans ((Below.refl w.heap.size w).alloc (Nat.le_refl _) _) hb)
    have c2 := cell2 (HK.out.pure hb)
    have hsz := HB.out.size
    clear hb
    go_wp2_with fail
    go_region_held3 (fun w' => w'.cell? ⟨w.heap.size, 2, none⟩ = some (.int .i64 t)) (first | assumption | exact cell_pure HB5.out c2)
      (first | (go_at_call 17; refine (kinds_spec _).mono ?_; rintro e w5 ⟨rfl, hb5⟩; have HB5 := Lib.hid hb5; clear hb5))
    go_wp2
    go_ret
    exact ⟨rfl, pure_trans HB.out.drew HB5.out⟩

set_option maxHeartbeats 4000000 in
theorem rkind_spec (p q t v : Int) (w : World) : Calls Try.prog 24 #[.agg #[.int .i64 p, .int .i64 q, .int .i64 t, .int .i64 v]] w fun e w' => e = .returned (.int .i64 (kindT t)) ∧ Below w.heap.size w w' := by
  cases ht : isT t with
  | true =>
    have h := isT_iff.1 ht
    have h : t = 0 ∨ t = 1 ∨ t = 2 ∨ t = 3 ∨ t = 4 ∨ t = 5 ∨ t = 6 ∨ t = 7 ∨ t = 8 ∨ t = 9 ∨ t = 10 ∨ t = 11 ∨ t = 12 ∨ t = 13 ∨ t = 14 ∨ t = 15 ∨ t = 16 ∨ t = 17 ∨ t = 18 ∨ t = 19 ∨ t = 20 ∨ t = 21 ∨ t = 22 ∨ t = 23 ∨ t = 24 ∨ t = 25 ∨ t = 26 ∨ t = 27 ∨ t = 28 ∨ t = 29 ∨ t = 30 ∨ t = 31 ∨ t = 32 ∨ t = 33 ∨ t = 34 ∨ t = 35 ∨ t = 36 := by omega
    clear ht
    rcases h with rfl | rfl | rfl | rfl | rfl | rfl | rfl | rfl | rfl | rfl | rfl | rfl | rfl | rfl | rfl | rfl | rfl | rfl | rfl | rfl | rfl | rfl | rfl | rfl | rfl | rfl | rfl | rfl | rfl | rfl | rfl | rfl | rfl | rfl | rfl | rfl | rfl
    all_goals
      go_enter Try.func24, Try.ntmps24
      go_wp2
      go_ret
      exact ⟨rfl, (Below.refl w.heap.size w).alloc (Nat.le_refl _) _⟩
  | false =>
    have hn := isT_no ht
    rw [kindT_no ht]
    have e0 : (t == 0) = false := beq_eq_false_iff_ne.mpr (by omega)
    have e1 : (t == 1) = false := beq_eq_false_iff_ne.mpr (by omega)
    have e2 : (t == 2) = false := beq_eq_false_iff_ne.mpr (by omega)
    have e4 : (t == 4) = false := beq_eq_false_iff_ne.mpr (by omega)
    have e5 : (t == 5) = false := beq_eq_false_iff_ne.mpr (by omega)
    have e6 : (t == 6) = false := beq_eq_false_iff_ne.mpr (by omega)
    have e7 : (t == 7) = false := beq_eq_false_iff_ne.mpr (by omega)
    have e9 : (t == 9) = false := beq_eq_false_iff_ne.mpr (by omega)
    have e10 : (t == 10) = false := beq_eq_false_iff_ne.mpr (by omega)
    have e11 : (t == 11) = false := beq_eq_false_iff_ne.mpr (by omega)
    have e12 : (t == 12) = false := beq_eq_false_iff_ne.mpr (by omega)
    have e14 : (t == 14) = false := beq_eq_false_iff_ne.mpr (by omega)
    have e16 : (t == 16) = false := beq_eq_false_iff_ne.mpr (by omega)
    have e17 : (t == 17) = false := beq_eq_false_iff_ne.mpr (by omega)
    have e19 : (t == 19) = false := beq_eq_false_iff_ne.mpr (by omega)
    have e20 : (t == 20) = false := beq_eq_false_iff_ne.mpr (by omega)
    have e22 : (t == 22) = false := beq_eq_false_iff_ne.mpr (by omega)
    have e23 : (t == 23) = false := beq_eq_false_iff_ne.mpr (by omega)
    have e25 : (t == 25) = false := beq_eq_false_iff_ne.mpr (by omega)
    have e26 : (t == 26) = false := beq_eq_false_iff_ne.mpr (by omega)
    have e36 : (t == 36) = false := beq_eq_false_iff_ne.mpr (by omega)
    clear hn ht
    go_enter Try.func24, Try.ntmps24
    go_wp2
    go_ret
    exact ⟨rfl, (Below.refl w.heap.size w).alloc (Nat.le_refl _) _⟩
set_option maxHeartbeats 1000000 in
theorem may1_spec (b : Nat) (p q t v : Int) (w : World) (hK : Blk w b 23 #[.int .i64 p, .int .i64 q, .int .i64 t, .int .i64 v]) : Calls Try.prog 30 #[.pointer (some ⟨b, 0, none⟩)] w fun e w' => e = .returned (.bool (formed q t v)) ∧ Below w.heap.size w w' := by
  have c2 := cell2 hK
  have HK := Lib.hid hK
  clear hK
  cases hl : legalT t with
  | false =>
    have HL := Lib.hid hl
    have HF := Lib.hid (show formed q t v = false by unfold formed; rw [hl]; rfl)
    rw [HF.out]
    clear hl
    go_enter Try.func30, Try.ntmps30
    go_wp2_with fail
    go_at_call 16
    refine (legal_spec t _).mono ?_
    rw [HL.out]
    rintro e w1 ⟨rfl, hb⟩
    have HB := Lib.hid hb
    clear hb
    go_wp2
    go_ret
    exact ⟨rfl, HB.out⟩
  | true =>
    have HL := Lib.hid hl
    have HF := Lib.hid (show formed q t v = (isW q && isW v) by unfold formed; rw [hl]; rfl)
    rw [HF.out]
    clear hl
    go_enter Try.func30, Try.ntmps30
    go_wp2_with fail
    go_at_call 16
    refine (legal_spec t _).mono ?_
    rw [HL.out]
    rintro e w1 ⟨rfl, hb⟩
    have HB := Lib.hid hb
    have c1 := cell1 (HK.out.pure hb)
    have c3 := cell3 (HK.out.pure hb)
    clear hb
    go_wp2_with fail
    go_at_call 31
    refine (iswidth_spec q _).mono ?_
    rintro e w1 ⟨rfl, rfl⟩
    cases hq : isW q with
    | false =>
      have HQ := Lib.hid hq
      clear hq
      go_wp2
      go_ret
      exact ⟨ret_bool (by rw [HQ.out]; rfl), HB.out⟩
    | true =>
      have HQ := Lib.hid hq
      clear hq
      go_wp2_with fail
      go_at_call 31
      refine (iswidth_spec v _).mono ?_
      rintro e w1 ⟨rfl, rfl⟩
      go_wp2
      go_ret
      exact ⟨ret_bool (by rw [HQ.out]; rfl), HB.out⟩
set_option maxHeartbeats 1000000 in
theorem may2_spec (a b : Nat) (A : Option Addr) (n c : Nat) (p q t v : Int) (w : World) (hn : n ≤ 9223372036854775807) (hA : Blk w a 25 #[.slice A n c]) (hK : Blk w b 23 #[.int .i64 p, .int .i64 q, .int .i64 t, .int .i64 v]) :
    Calls Try.prog 32 #[.pointer (some ⟨a, 0, none⟩), .pointer (some ⟨b, 0, none⟩)] w fun e w' => e = .returned (.bool (inB n p q)) ∧ w = w' := by
  have c0 := cell0 hK
  have c1 := cell1 hK
  have a0 : w.cell? ⟨a, 0, none⟩ = some (.slice A n c) := hA.cell 0
  clear hK hA
  go_enter Try.func32, Try.ntmps32
  go_wp2_with fail
  go_at_call 20
  refine (inside_spec A n c p q _ hn).mono ?_
  rintro e w1 ⟨rfl, rfl⟩
  go_wp2
  go_ret
  exact ⟨rfl, rfl⟩
set_option maxHeartbeats 1000000 in
theorem may_spec (A : Option Addr) (n c : Nat) (p q t v : Int) (w : World) (hn : n ≤ 9223372036854775807) : Calls Try.prog 14 #[.slice A n c, .agg #[.int .i64 p, .int .i64 q, .int .i64 t, .int .i64 v]] w fun e w' => e = .returned (.int .i64 (mayE n p q t v)) ∧ Below w.heap.size w w' := by
  have HA := Lib.hid ((Blk.new w 25 #[.slice A n c]).alloc (.cells #[.int .i64 p, .int .i64 q, .int .i64 t, .int .i64 v] 23))
  have HK := Lib.hid (Blk.new_ (w := w.alloc (.cells #[.slice A n c] 25)) (g := w.heap.size + 1) (by simp) 23 #[.int .i64 p, .int .i64 q, .int .i64 t, .int .i64 v])
  have HF1 := Try.call30
  have HF2 := Try.call32
  go_enter Try.func14, Try.ntmps14
  go_wp2
  refine wp_loop_rounds 3 ?_
  rw [rounds_succ]
  go_wp2_with fail
  refine (may1_spec (w.heap.size + 1) p q t v _ ((HK.out.alloc _).alloc _)).mono ?_
  rintro e w1 ⟨rfl, hb⟩
  have HL := Lib.hid ((Blk.new_ (w := ((w.alloc (.cells #[.slice A n c] 25)).alloc (.cells #[.int .i64 p, .int .i64 q, .int .i64 t, .int .i64 v] 23))) (g := w.heap.size + 1 + 1) (by simp) _ _).alloc _ |>.pure hb)
  have HX := Lib.hid ((Blk.new_ (g := w.heap.size + 1 + 1 + 1) (by simp) _ _).pure hb)
  have HA := Lib.hid (((HA.out.alloc _).alloc _).pure hb)
  have HK := Lib.hid (((HK.out.alloc _).alloc _).pure hb)
  have HB := Lib.hid (((((Below.refl w.heap.size w).alloc (Nat.le_refl _) _).alloc (by simp) _).alloc (by simp; omega) _).alloc (by simp; omega) _ |>.trans (hb.mono (by simp; omega)))
  have hs : w.heap.size + 1 + 1 + 1 < w1.heap.size := by have := HX.out.lt; omega
  clear hb
  cases hf : formed q t v with
  | false =>
    have HE := Lib.hid (show mayE n p q t v = 2 by unfold mayE; rw [hf]; rfl)
    have x1 := (HX.out.cell 1).trans (show _ = some (Value.int .i64 2) from rfl)
    clear hf HF1 HF2
    go_wp2
    go_ret
    exact ⟨ret_int HE.out.symm, HB.out⟩
  | true =>
    have HE := Lib.hid (show mayE n p q t v = if inB n p q = true then 0 else 6 by unfold mayE; rw [hf]; rfl)
    have l2 := HL.out.cell 2
    have l3 := HL.out.cell 3
    simp only [List.getElem?_toArray, List.getElem?_cons_succ, List.getElem?_cons_zero] at l2 l3
    clear hf
    go_wp2
    rw [rounds_succ]
    go_wp2_with fail
    refine (may2_spec w.heap.size (w.heap.size + 1) A n c p q t v _ hn (HA.out.alloc _) (HK.out.alloc _)).mono ?_
    rintro e w2 ⟨rfl, rfl⟩
    clear l2 l3
    cases hi : inB n p q with
    | true =>
      have HI := Lib.hid hi
      clear hi
      go_wp2
      rw [rounds_succ]
      go_wp2
      go_ret
      exact ⟨ret_int (by rw [HE.out, HI.out]; rfl), HB.out.alloc (by omega) _⟩
    | false =>
      have HI := Lib.hid hi
      clear hi
      go_wp2
      go_ret
      exact ⟨ret_int (by rw [HE.out, HI.out]; rfl), HB.out.alloc (by omega) _⟩
set_option maxHeartbeats 1000000 in
theorem rmay_spec (A : Option Addr) (n c : Nat) (p q t v : Int) (w : World) (hn : n ≤ 9223372036854775807) : Calls Try.prog 22 #[.slice A n c, .agg #[.int .i64 p, .int .i64 q, .int .i64 t, .int .i64 v]] w fun e w' => e = .returned (.int .i64 (mayE n p q t v)) ∧ Below w.heap.size w w' := by
  have HB := Lib.hid ((Below.refl w.heap.size w).alloc (Nat.le_refl _) (.cells #[.int .i64 p, .int .i64 q, .int .i64 t, .int .i64 v] 23))
  go_enter Try.func22, Try.ntmps22
  go_wp2_with fail
  go_at_call 37
  refine (rlegal_spec t _).mono ?_
  rintro e w1 ⟨rfl, rfl⟩
  cases hl : legalT t with
  | false =>
    have HE := Lib.hid (show mayE n p q t v = 2 by unfold mayE formed; rw [hl]; rfl)
    clear hl
    go_wp2
    go_ret
    exact ⟨ret_int HE.out.symm, HB.out⟩
  | true =>
    have HL := Lib.hid hl
    clear hl
    go_wp2_with fail
    go_at_call 38
    refine (wide_spec q _).mono ?_
    rintro e w1 ⟨rfl, rfl⟩
    cases hq : isW q with
    | false =>
      have HE := Lib.hid (show mayE n p q t v = 2 by unfold mayE formed; rw [HL.out, hq]; rfl)
      clear hq
      go_wp2
      go_ret
      exact ⟨ret_int HE.out.symm, HB.out⟩
    | true =>
      have HQ := Lib.hid hq
      clear hq
      go_wp2_with fail
      go_at_call 38
      refine (wide_spec v _).mono ?_
      rintro e w1 ⟨rfl, rfl⟩
      cases hv : isW v with
      | false =>
        have HE := Lib.hid (show mayE n p q t v = 2 by unfold mayE formed; rw [HL.out, HQ.out, hv]; rfl)
        clear hv
        go_wp2
        go_ret
        exact ⟨ret_int HE.out.symm, HB.out⟩
      | true =>
        have HE := Lib.hid (show mayE n p q t v = if inB n p q = true then 0 else 6 by unfold mayE formed; rw [HL.out, HQ.out, hv]; rfl)
        clear hv
        go_wp2_with fail
        go_at_call 25
        refine (rinside_spec A n c p q _ hn).mono ?_
        rintro e w1 ⟨rfl, rfl⟩
        cases hi : inB n p q with
        | true =>
          have HI := Lib.hid hi
          clear hi
          go_wp2
          go_ret
          exact ⟨ret_int (by rw [HE.out, HI.out]; rfl), HB.out⟩
        | false =>
          have HI := Lib.hid hi
          clear hi
          go_wp2
          go_ret
          exact ⟨ret_int (by rw [HE.out, HI.out]; rfl), HB.out⟩
end Go.Proofs.Ytmahemllfghdfaa
