/-
  Package ref and its reference: Kind, May.
  Package ref and its reference: Target.
-/
import Derived.Test.YtejalfjeihlpeaaGreatQ07
import Derived.Laws.EntriesVeiled
namespace Go.Proofs.YtejalfjeihlpeaaGreat
open Go.RowKit Go.Acc
def kCells : Array Value := (tKinds.map fun k => Value.int .i64 k).toArray
def kZero : Array Value := Array.replicate 37 (Value.int .i64 0)
set_option maxHeartbeats 1000000 in
theorem may1_spec (b : Nat) (p q t v : Int) (w : World) (hK : Blk w b 48 #[.int .i64 p, .int .i64 q, .int .i64 t, .int .i64 v]) : Calls Tryz.prog 117 #[.pointer (some ⟨b, 0, none⟩)] w fun e w' => e = .returned (.bool (formed q t v)) ∧ Below w.heap.size w w' := by
  have c2 := cell2 hK
  have HK := Lib.hid hK
  clear hK
  cases hl : legalT t with
  | false =>
    have HL := Lib.hid hl
    have HF := Lib.hid (show formed q t v = false by unfold formed; rw [hl]; rfl)
    rw [HF.out]
    clear hl
    go_enter Tryz.func117, Tryz.ntmps117
    go_wp2_with fail
    go_at_call 84
    refine (legal_spec t _).mono ?_
    rw [HL.out]
    rintro e w1 ⟨rfl, hb⟩
    have HB := Lib.hid hb
    clear hb
    go_wp2
    go_ret
    exact ⟨rfl, HB.out⟩
  | true =>
    have HL := Lib.hid hl
    have HF := Lib.hid (show formed q t v = (isW q && isW v) by unfold formed; rw [hl]; rfl)
    rw [HF.out]
    clear hl
    go_enter Tryz.func117, Tryz.ntmps117
    go_wp2_with fail
    go_at_call 84
    refine (legal_spec t _).mono ?_
    rw [HL.out]
    rintro e w1 ⟨rfl, hb⟩
    have HB := Lib.hid hb
    have c1 := cell1 (HK.out.pure hb)
    have c3 := cell3 (HK.out.pure hb)
    clear hb
    go_wp2_with fail
    go_at_call 49
    refine (iswidth_spec q _).mono ?_
    rintro e w1 ⟨rfl, rfl⟩
    cases hq : isW q with
    | false =>
      have HQ := Lib.hid hq
      clear hq
      go_wp2
      go_ret
      exact ⟨ret_bool (by rw [HQ.out]; rfl), HB.out⟩
    | true =>
      have HQ := Lib.hid hq
      clear hq
      go_wp2_with fail
      go_at_call 49
      refine (iswidth_spec v _).mono ?_
      rintro e w1 ⟨rfl, rfl⟩
      go_wp2
      go_ret
      exact ⟨ret_bool (by rw [HQ.out]; rfl), HB.out⟩
set_option maxHeartbeats 1000000 in
theorem may2_spec (a b : Nat) (A : Option Addr) (n c : Nat) (p q t v : Int) (w : World) (hn : n ≤ 9223372036854775807) (hA : Blk w a 22 #[.slice A n c]) (hK : Blk w b 48 #[.int .i64 p, .int .i64 q, .int .i64 t, .int .i64 v]) :
    Calls Tryz.prog 118 #[.pointer (some ⟨a, 0, none⟩), .pointer (some ⟨b, 0, none⟩)] w fun e w' => e = .returned (.bool (inB n p q)) ∧ w = w' := by
  have c0 := cell0 hK
  have c1 := cell1 hK
  have a0 : w.cell? ⟨a, 0, none⟩ = some (.slice A n c) := hA.cell 0
  clear hK hA
  go_enter Tryz.func118, Tryz.ntmps118
  go_wp2_with fail
  go_at_call 119
  refine (inside_spec A n c p q _ hn).mono ?_
  rintro e w1 ⟨rfl, rfl⟩
  go_wp2
  go_ret
  exact ⟨rfl, rfl⟩
set_option maxHeartbeats 1000000 in
theorem may_spec (A : Option Addr) (n c : Nat) (p q t v : Int) (w : World) (hn : n ≤ 9223372036854775807) : Calls Tryz.prog 86 #[.slice A n c, .agg #[.int .i64 p, .int .i64 q, .int .i64 t, .int .i64 v]] w fun e w' => e = .returned (.int .i64 (mayE n p q t v)) ∧ Below w.heap.size w w' := by
  have HA := Lib.hid ((Blk.new w 22 #[.slice A n c]).alloc (.cells #[.int .i64 p, .int .i64 q, .int .i64 t, .int .i64 v] 48))
  have HK := Lib.hid (Blk.new_ (w := w.alloc (.cells #[.slice A n c] 22)) (g := w.heap.size + 1) (by simp) 48 #[.int .i64 p, .int .i64 q, .int .i64 t, .int .i64 v])
  have HF1 := Tryz.call117
  have HF2 := Tryz.call118
  go_enter Tryz.func86, Tryz.ntmps86
  go_wp2
  refine wp_loop_rounds 3 ?_
  rw [rounds_succ]
  go_wp2_with fail
  refine (may1_spec (w.heap.size + 1) p q t v _ ((HK.out.alloc _).alloc _)).mono ?_
  rintro e w1 ⟨rfl, hb⟩
  have HL := Lib.hid ((Blk.new_ (w := ((w.alloc (.cells #[.slice A n c] 22)).alloc (.cells #[.int .i64 p, .int .i64 q, .int .i64 t, .int .i64 v] 48))) (g := w.heap.size + 1 + 1) (by simp) _ _).alloc _ |>.pure hb)
  have HX := Lib.hid ((Blk.new_ (g := w.heap.size + 1 + 1 + 1) (by simp) _ _).pure hb)
  have HA := Lib.hid (((HA.out.alloc _).alloc _).pure hb)
  have HK := Lib.hid (((HK.out.alloc _).alloc _).pure hb)
  have HB := Lib.hid (((((Below.refl w.heap.size w).alloc (Nat.le_refl _) _).alloc (by simp) _).alloc (by simp; omega) _).alloc (by simp; omega) _ |>.trans (hb.mono (by simp; omega)))
  have hs : w.heap.size + 1 + 1 + 1 < w1.heap.size := by have := HX.out.lt; omega
  clear hb
  cases hf : formed q t v with
  | false =>
    have HE := Lib.hid (show mayE n p q t v = 2 by unfold mayE; rw [hf]; rfl)
    have x1 := (HX.out.cell 1).trans (show _ = some (Value.int .i64 2) from rfl)
    clear hf HF1 HF2
    go_wp2
    go_ret
    exact ⟨ret_int HE.out.symm, HB.out⟩
  | true =>
    have HE := Lib.hid (show mayE n p q t v = if inB n p q = true then 0 else 6 by unfold mayE; rw [hf]; rfl)
    have l2 := HL.out.cell 2
    have l3 := HL.out.cell 3
    simp only [List.getElem?_toArray, List.getElem?_cons_succ, List.getElem?_cons_zero] at l2 l3
    clear hf
    go_wp2
    rw [rounds_succ]
    go_wp2_with fail
    refine (may2_spec w.heap.size (w.heap.size + 1) A n c p q t v _ hn (HA.out.alloc _) (HK.out.alloc _)).mono ?_
    rintro e w2 ⟨rfl, rfl⟩
    clear l2 l3
    cases hi : inB n p q with
    | true =>
      have HI := Lib.hid hi
      clear hi
      go_wp2
      rw [rounds_succ]
      go_wp2
      go_ret
      exact ⟨ret_int (by rw [HE.out, HI.out]; rfl), HB.out.alloc (by omega) _⟩
    | false =>
      have HI := Lib.hid hi
      clear hi
      go_wp2
      go_ret
      exact ⟨ret_int (by rw [HE.out, HI.out]; rfl), HB.out.alloc (by omega) _⟩
set_option maxHeartbeats 1000000 in
theorem rmay_spec (A : Option Addr) (n c : Nat) (p q t v : Int) (w : World) (hn : n ≤ 9223372036854775807) : Calls Tryz.prog 98 #[.slice A n c, .agg #[.int .i64 p, .int .i64 q, .int .i64 t, .int .i64 v]] w fun e w' => e = .returned (.int .i64 (mayE n p q t v)) ∧ Below w.heap.size w w' := by
  have HB := Lib.hid ((Below.refl w.heap.size w).alloc (Nat.le_refl _) (.cells #[.int .i64 p, .int .i64 q, .int .i64 t, .int .i64 v] 48))
  go_enter Tryz.func98, Tryz.ntmps98
  go_wp2_with fail
  go_at_call 96
  refine (rlegal_spec t _).mono ?_
  rintro e w1 ⟨rfl, rfl⟩
  cases hl : legalT t with
  | false =>
    have HE := Lib.hid (show mayE n p q t v = 2 by unfold mayE formed; rw [hl]; rfl)
    clear hl
    go_wp2
    go_ret
    exact ⟨ret_int HE.out.symm, HB.out⟩
  | true =>
    have HL := Lib.hid hl
    clear hl
    go_wp2_with fail
    go_at_call 60
    refine (wide_spec q _).mono ?_
    rintro e w1 ⟨rfl, rfl⟩
    cases hq : isW q with
    | false =>
      have HE := Lib.hid (show mayE n p q t v = 2 by unfold mayE formed; rw [HL.out, hq]; rfl)
      clear hq
      go_wp2
      go_ret
      exact ⟨ret_int HE.out.symm, HB.out⟩
    | true =>
      have HQ := Lib.hid hq
      clear hq
      go_wp2_with fail
      go_at_call 60
      refine (wide_spec v _).mono ?_
      rintro e w1 ⟨rfl, rfl⟩
      cases hv : isW v with
      | false =>
        have HE := Lib.hid (show mayE n p q t v = 2 by unfold mayE formed; rw [HL.out, HQ.out, hv]; rfl)
        clear hv
        go_wp2
        go_ret
        exact ⟨ret_int HE.out.symm, HB.out⟩
      | true =>
        have HE := Lib.hid (show mayE n p q t v = if inB n p q = true then 0 else 6 by unfold mayE formed; rw [HL.out, HQ.out, hv]; rfl)
        clear hv
        go_wp2_with fail
        go_at_call 101
        refine (rinside_spec A n c p q _ hn).mono ?_
        rintro e w1 ⟨rfl, rfl⟩
        cases hi : inB n p q with
        | true =>
          have HI := Lib.hid hi
          clear hi
          go_wp2
          go_ret
          exact ⟨ret_int (by rw [HE.out, HI.out]; rfl), HB.out⟩
        | false =>
          have HI := Lib.hid hi
          clear hi
          go_wp2
          go_ret
          exact ⟨ret_int (by rw [HE.out, HI.out]; rfl), HB.out⟩
end Go.Proofs.YtejalfjeihlpeaaGreat

namespace Go.Proofs.YtejalfjeihlpeaaGreat
open Go.RowKit Go.Acc
theorem ret_t2 {k k' : IntKind} {a b c d : Int} (h : a = b) (h' : c = d) : Ending.returned (.tuple #[.int k a, .int k' c]) = .returned (.tuple #[.int k b, .int k' d]) := by rw [h, h']
theorem inline_spec_b {w w' : World} (h : Below w.heap.size w w') : Below w.heap.size w w' := h
theorem rinline_spec_b {w w' : World} (h : w = w') : Below w.heap.size w w' := by subst h; exact Below.refl _ _
set_option maxHeartbeats 1000000 in
theorem target_spec (A : Option Addr) (n c : Nat) (p q t v : Int) (l : List UInt8) (w : World) (hl : IsB w A n l) (hc : n ≤ c) (hn : n ≤ 9223372036854775807) :
    Calls Tryz.prog 53 #[.slice A n c, .agg #[.int .i64 p, .int .i64 q, .int .i64 t, .int .i64 v]] w fun e w' => e = .returned (.tuple #[.int .i64 (tgt l p q t v), .int .i64 (tgtE l p q t v)]) ∧ Below w.heap.size w w' := by
  have hlen := hl.1
  subst hlen
  have HL := Lib.hid (hl.alloc (.cells #[.int .i64 p, .int .i64 q, .int .i64 t, .int .i64 v] 48))
  have HK := Lib.hid (Blk.new w 48 #[.int .i64 p, .int .i64 q, .int .i64 t, .int .i64 v])
  have HB := Lib.hid ((Below.refl w.heap.size w).alloc (Nat.le_refl _) (.cells #[.int .i64 p, .int .i64 q, .int .i64 t, .int .i64 v] 48))
  clear hl
  go_enter Tryz.func53, Tryz.ntmps53
  go_wp2_with fail
  go_at_call 86
  refine (may_spec A l.length c p q t v _ hn).mono ?_
  rintro e w1 ⟨rfl, hb⟩
  by_cases hm : mayE l.length p q t v = 0
  · rw [hm]
    have HB := Lib.hid (pure_below HB.out hb); have HK := Lib.hid (HK.out.pure hb); have HL := Lib.hid (HL.out.pure hb); have c0 := cell0 HK.out; have c1 := cell1 HK.out; have c2 := cell2 HK.out; have c3 := cell3 HK.out; clear hb
    go_wp2_with fail
    go_at_call 52
    refine (inline_spec t _).mono ?_
    rintro e w2 ⟨rfl, hb⟩
    have hb := inline_spec_b hb
    clear c0 c1 c2 c3
    cases hi : inlineT t with
    | true =>
      have HE := Lib.hid (tgtE_inl hm hi)
      have HT := Lib.hid (tgt_inl hm hi)
      have HB := Lib.hid (pure_below HB.out hb)
      clear hm hi hb
      go_wp2
      go_ret2
      exact ⟨ret_t2 HT.out.symm HE.out.symm, HB.out⟩
    | false =>
      obtain ⟨h1, h2⟩ := mayE_ok.1 hm
      have h2 := inB_iff.1 h2
      have h1 := formed_iff.1 h1
      have hp0 := h2.1
      have hpn := h2.2.2
      have hq1 : 1 ≤ q := by have := isW_iff.1 h1.2.1; omega
      have HLE := Lib.hid (may_load hm)
      have HB := Lib.hid (pure_below HB.out hb); have HK := Lib.hid (HK.out.pure hb); have HL := Lib.hid (HL.out.pure hb); have c0 := cell0 HK.out; have c1 := cell1 HK.out; have c2 := cell2 HK.out; have c3 := cell3 HK.out; clear hb
      go_wp2_with fail
      go_at_call 87
      refine (load_spec A l.length c p q _ _ HL.out hc hn).mono ?_
      rw [HLE.out]
      rintro e w3 ⟨rfl, hb⟩
      clear c0 c1 c2 c3
      have HB := Lib.hid (pure_below HB.out hb); have HK := Lib.hid (HK.out.pure hb); have HL := Lib.hid (HL.out.pure hb); have c0 := cell0 HK.out; have c1 := cell1 HK.out; have c2 := cell2 HK.out; have c3 := cell3 HK.out; clear hb
      by_cases hu : p < (loadU l p q : Int)
      · have HE := Lib.hid (tgtE_off hm hi hu)
        have HT := Lib.hid (tgt_off hm hi hu)
        generalize loadU l p q = u at hu
        clear hm hi h1 h2
        have hw : IntKind.u64.wrap p = p := u64_in p (by omega)
        go_wp2
        go_ret2
        exact ⟨ret_t2 HT.out.symm HE.out.symm, HB.out⟩
      · have HE := Lib.hid (tgtE_ok hm hi hu)
        have HT := Lib.hid (tgt_ok hm hi hu)
        have HU := Lib.hid (show loadU l p q = loadU l p q from rfl)
        obtain ⟨u, hue⟩ : ∃ u, loadU l p q = u := ⟨_, rfl⟩
        rw [hue] at hu HT ⊢
        clear hm hi h1 h2 hue HU
        have hw : IntKind.u64.wrap p = p := u64_in p (by omega)
        have hw2 : wrap64 (u : Int) = u := wrap64_in _ (by omega)
        have hw3 : wrap64 (p - (u : Int)) = p - u := wrap64_in _ (by omega)
        go_wp2
        go_ret2
        exact ⟨ret_t2 HT.out.symm HE.out.symm, HB.out⟩
  · have HE := Lib.hid (tgtE_may hm)
    have HT := Lib.hid (tgt_may hm)
    have hne : (mayE l.length p q t v != 0) = true := by simpa using hm
    have HB := Lib.hid (pure_below HB.out hb); have HK := Lib.hid (HK.out.pure hb); have HL := Lib.hid (HL.out.pure hb); have c0 := cell0 HK.out; have c1 := cell1 HK.out; have c2 := cell2 HK.out; have c3 := cell3 HK.out; clear hb
    clear hm
    go_wp2
    go_ret2
    exact ⟨ret_t2 HT.out.symm HE.out.symm, HB.out⟩
set_option maxHeartbeats 1000000 in
theorem rtarget_spec (A : Option Addr) (n c : Nat) (p q t v : Int) (l : List UInt8) (w : World) (hl : IsB w A n l) (hn : n ≤ 9223372036854775807) :
    Calls Tryz.prog 65 #[.slice A n c, .agg #[.int .i64 p, .int .i64 q, .int .i64 t, .int .i64 v]] w fun e w' => e = .returned (.tuple #[.int .i64 (tgt l p q t v), .int .i64 (tgtE l p q t v)]) ∧ Below w.heap.size w w' := by
  have hlen := hl.1
  subst hlen
  have HL := Lib.hid (hl.alloc (.cells #[.int .i64 p, .int .i64 q, .int .i64 t, .int .i64 v] 48))
  have HK := Lib.hid (Blk.new w 48 #[.int .i64 p, .int .i64 q, .int .i64 t, .int .i64 v])
  have HB := Lib.hid ((Below.refl w.heap.size w).alloc (Nat.le_refl _) (.cells #[.int .i64 p, .int .i64 q, .int .i64 t, .int .i64 v] 48))
  clear hl
  go_enter Tryz.func65, Tryz.ntmps65
  go_wp2_with fail
  go_at_call 98
  refine (rmay_spec A l.length c p q t v _ hn).mono ?_
  rintro e w1 ⟨rfl, hb⟩
  by_cases hm : mayE l.length p q t v = 0
  · rw [hm]
    have HB := Lib.hid (pure_below HB.out hb); have HK := Lib.hid (HK.out.pure hb); have HL := Lib.hid (HL.out.pure hb); have c0 := cell0 HK.out; have c1 := cell1 HK.out; have c2 := cell2 HK.out; have c3 := cell3 HK.out; clear hb
    go_wp2_with fail
    go_at_call 63
    refine (rinline_spec t _).mono ?_
    rintro e w2 ⟨rfl, hb⟩
    have hb := rinline_spec_b hb
    clear c0 c1 c2 c3
    cases hi : inlineT t with
    | true =>
      have HE := Lib.hid (tgtE_inl hm hi)
      have HT := Lib.hid (tgt_inl hm hi)
      have HB := Lib.hid (pure_below HB.out hb)
      clear hm hi hb
      go_wp2
      go_ret2
      exact ⟨ret_t2 HT.out.symm HE.out.symm, HB.out⟩
    | false =>
      obtain ⟨h1, h2⟩ := mayE_ok.1 hm
      have h2 := inB_iff.1 h2
      have h1 := formed_iff.1 h1
      have hp0 := h2.1
      have hpn := h2.2.2
      have hq1 : 1 ≤ q := by have := isW_iff.1 h1.2.1; omega
      have HLE := Lib.hid (may_load hm)
      have HB := Lib.hid (pure_below HB.out hb); have HK := Lib.hid (HK.out.pure hb); have HL := Lib.hid (HL.out.pure hb); have c0 := cell0 HK.out; have c1 := cell1 HK.out; have c2 := cell2 HK.out; have c3 := cell3 HK.out; clear hb
      go_wp2_with fail
      go_at_call 99
      refine (rload_spec A l.length c p q _ _ HL.out  hn).mono ?_
      rw [HLE.out]
      rintro e w3 ⟨rfl, hb⟩
      clear c0 c1 c2 c3
      have HB := Lib.hid (pure_below HB.out hb); have HK := Lib.hid (HK.out.pure hb); have HL := Lib.hid (HL.out.pure hb); have c0 := cell0 HK.out; have c1 := cell1 HK.out; have c2 := cell2 HK.out; have c3 := cell3 HK.out; clear hb
      by_cases hu : p < (loadU l p q : Int)
      · have HE := Lib.hid (tgtE_off hm hi hu)
        have HT := Lib.hid (tgt_off hm hi hu)
        generalize loadU l p q = u at hu
        clear hm hi h1 h2
        have hw : IntKind.u64.wrap p = p := u64_in p (by omega)
        go_wp2
        go_ret2
        exact ⟨ret_t2 HT.out.symm HE.out.symm, HB.out⟩
      · have HE := Lib.hid (tgtE_ok hm hi hu)
        have HT := Lib.hid (tgt_ok hm hi hu)
        have HU := Lib.hid (show loadU l p q = loadU l p q from rfl)
        obtain ⟨u, hue⟩ : ∃ u, loadU l p q = u := ⟨_, rfl⟩
        rw [hue] at hu HT ⊢
        clear hm hi h1 h2 hue HU
        have hw : IntKind.u64.wrap p = p := u64_in p (by omega)
        have hw2 : wrap64 (u : Int) = u := wrap64_in _ (by omega)
        have hw3 : wrap64 (p - (u : Int)) = p - u := wrap64_in _ (by omega)
        go_wp2
        go_ret2
        exact ⟨ret_t2 HT.out.symm HE.out.symm, HB.out⟩
  · have HE := Lib.hid (tgtE_may hm)
    have HT := Lib.hid (tgt_may hm)
    have hne : (mayE l.length p q t v != 0) = true := by simpa using hm
    have HB := Lib.hid (pure_below HB.out hb); have HK := Lib.hid (HK.out.pure hb); have HL := Lib.hid (HL.out.pure hb); have c0 := cell0 HK.out; have c1 := cell1 HK.out; have c2 := cell2 HK.out; have c3 := cell3 HK.out; clear hb
    clear hm
    go_wp2
    go_ret2
    exact ⟨ret_t2 HT.out.symm HE.out.symm, HB.out⟩
end Go.Proofs.YtejalfjeihlpeaaGreat
