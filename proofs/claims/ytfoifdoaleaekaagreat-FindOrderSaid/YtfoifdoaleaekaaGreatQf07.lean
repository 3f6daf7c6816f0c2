/-
  Package ref and its reference: Kind, May.
  Package ref and its reference: Target.
  Package ref and its reference: Root.
  Package list: the shape of a type; how many elements.
-/
import Derived.Test.YtfoifdoaleaekaaGreatQf06
import Derived.Laws.EntriesVeiled
namespace Go.Proofs.YtfoifdoaleaekaaGreat
open Go.RowKit Go.Acc
set_option maxHeartbeats 1000000 in
theorem may1_spec (b : Nat) (p q t v : Int) (w : World) (hK : Blk w b 36 #[.int .i64 p, .int .i64 q, .int .i64 t, .int .i64 v]) : Calls Tryz.prog 43 #[.pointer (some ⟨b, 0, none⟩)] w fun e w' => e = .returned (.bool (formed q t v)) ∧ Below w.heap.size w w' := by
  have c2 := cell2 hK
  have HK := Lib.hid hK
  clear hK
  cases hl : legalT t with
  | false =>
    have HL := Lib.hid hl
    have HF := Lib.hid (show formed q t v = false by unfold formed; rw [hl]; rfl)
    rw [HF.out]
    clear hl
    go_enter Tryz.func43, Tryz.ntmps43
    go_wp2_with fail
    go_at_call 44
    refine (legal_spec t _).mono ?_
    rw [HL.out]
    rintro e w1 ⟨rfl, hb⟩
    have HB := Lib.hid hb
    clear hb
    go_wp2
    go_ret
    exact ⟨rfl, HB.out⟩
  | true =>
    have HL := Lib.hid hl
    have HF := Lib.hid (show formed q t v = (isW q && isW v) by unfold formed; rw [hl]; rfl)
    rw [HF.out]
    clear hl
    go_enter Tryz.func43, Tryz.ntmps43
    go_wp2_with fail
    go_at_call 44
    refine (legal_spec t _).mono ?_
    rw [HL.out]
    rintro e w1 ⟨rfl, hb⟩
    have HB := Lib.hid hb
    have c1 := cell1 (HK.out.pure hb)
    have c3 := cell3 (HK.out.pure hb)
    clear hb
    go_wp2_with fail
    go_at_call 41
    refine (iswidth_spec q _).mono ?_
    rintro e w1 ⟨rfl, rfl⟩
    cases hq : isW q with
    | false =>
      have HQ := Lib.hid hq
      clear hq
      go_wp2
      go_ret
      exact ⟨ret_bool (by rw [HQ.out]; rfl), HB.out⟩
    | true =>
      have HQ := Lib.hid hq
      clear hq
      go_wp2_with fail
      go_at_call 41
      refine (iswidth_spec v _).mono ?_
      rintro e w1 ⟨rfl, rfl⟩
      go_wp2
      go_ret
      exact ⟨ret_bool (by rw [HQ.out]; rfl), HB.out⟩
set_option maxHeartbeats 1000000 in
theorem may2_spec (a b : Nat) (A : Option Addr) (n c : Nat) (p q t v : Int) (w : World) (hn : n ≤ 9223372036854775807) (hA : Blk w a 29 #[.slice A n c]) (hK : Blk w b 36 #[.int .i64 p, .int .i64 q, .int .i64 t, .int .i64 v]) :
    Calls Tryz.prog 45 #[.pointer (some ⟨a, 0, none⟩), .pointer (some ⟨b, 0, none⟩)] w fun e w' => e = .returned (.bool (inB n p q)) ∧ w = w' := by
  have c0 := cell0 hK
  have c1 := cell1 hK
  have a0 : w.cell? ⟨a, 0, none⟩ = some (.slice A n c) := hA.cell 0
  clear hK hA
  go_enter Tryz.func45, Tryz.ntmps45
  go_wp2_with fail
  go_at_call 35
  refine (inside_spec A n c p q _ hn).mono ?_
  rintro e w1 ⟨rfl, rfl⟩
  go_wp2
  go_ret
  exact ⟨rfl, rfl⟩
set_option maxHeartbeats 1000000 in
theorem may_spec (A : Option Addr) (n c : Nat) (p q t v : Int) (w : World) (hn : n ≤ 9223372036854775807) : Calls Tryz.prog 14 #[.slice A n c, .agg #[.int .i64 p, .int .i64 q, .int .i64 t, .int .i64 v]] w fun e w' => e = .returned (.int .i64 (mayE n p q t v)) ∧ Below w.heap.size w w' := by
  have HA := Lib.hid ((Blk.new w 29 #[.slice A n c]).alloc (.cells #[.int .i64 p, .int .i64 q, .int .i64 t, .int .i64 v] 36))
  have HK := Lib.hid (Blk.new_ (w := w.alloc (.cells #[.slice A n c] 29)) (g := w.heap.size + 1) (by simp) 36 #[.int .i64 p, .int .i64 q, .int .i64 t, .int .i64 v])
  have HF1 := Tryz.call43
  have HF2 := Tryz.call45
  go_enter Tryz.func14, Tryz.ntmps14
  go_wp2
  refine wp_loop_rounds 3 ?_
  rw [rounds_succ]
  go_wp2_with fail
  refine (may1_spec (w.heap.size + 1) p q t v _ ((HK.out.alloc _).alloc _)).mono ?_
  rintro e w1 ⟨rfl, hb⟩
  have HL := Lib.hid ((Blk.new_ (w := ((w.alloc (.cells #[.slice A n c] 29)).alloc (.cells #[.int .i64 p, .int .i64 q, .int .i64 t, .int .i64 v] 36))) (g := w.heap.size + 1 + 1) (by simp) _ _).alloc _ |>.pure hb)
  have HX := Lib.hid ((Blk.new_ (g := w.heap.size + 1 + 1 + 1) (by simp) _ _).pure hb)
  have HA := Lib.hid (((HA.out.alloc _).alloc _).pure hb)
  have HK := Lib.hid (((HK.out.alloc _).alloc _).pure hb)
  have HB := Lib.hid (((((Below.refl w.heap.size w).alloc (Nat.le_refl _) _).alloc (by simp) _).alloc (by simp; omega) _).alloc (by simp; omega) _ |>.trans (hb.mono (by simp; omega)))
  have hs : w.heap.size + 1 + 1 + 1 < w1.heap.size := by have := HX.out.lt; omega
  clear hb
  cases hf : formed q t v with
  | false =>
    have HE := Lib.hid (show mayE n p q t v = 2 by unfold mayE; rw [hf]; rfl)
    have x1 := (HX.out.cell 1).trans (show _ = some (Value.int .i64 2) from rfl)
    clear hf HF1 HF2
    go_wp2
    go_ret
    exact ⟨ret_int HE.out.symm, HB.out⟩
  | true =>
    have HE := Lib.hid (show mayE n p q t v = if inB n p q = true then 0 else 6 by unfold mayE; rw [hf]; rfl)
    have l2 := HL.out.cell 2
    have l3 := HL.out.cell 3
    simp only [List.getElem?_toArray, List.getElem?_cons_succ, List.getElem?_cons_zero] at l2 l3
    clear hf
    go_wp2
    rw [rounds_succ]
    go_wp2_with fail
    refine (may2_spec w.heap.size (w.heap.size + 1) A n c p q t v _ hn (HA.out.alloc _) (HK.out.alloc _)).mono ?_
    rintro e w2 ⟨rfl, rfl⟩
    clear l2 l3
    cases hi : inB n p q with
    | true =>
      have HI := Lib.hid hi
      clear hi
      go_wp2
      rw [rounds_succ]
      go_wp2
      go_ret
      exact ⟨ret_int (by rw [HE.out, HI.out]; rfl), HB.out.alloc (by omega) _⟩
    | false =>
      have HI := Lib.hid hi
      clear hi
      go_wp2
      go_ret
      exact ⟨ret_int (by rw [HE.out, HI.out]; rfl), HB.out.alloc (by omega) _⟩
end Go.Proofs.YtfoifdoaleaekaaGreat

namespace Go.Proofs.YtfoifdoaleaekaaGreat
open Go.RowKit Go.Acc
theorem ret_t2 {k k' : IntKind} {a b c d : Int} (h : a = b) (h' : c = d) : Ending.returned (.tuple #[.int k a, .int k' c]) = .returned (.tuple #[.int k b, .int k' d]) := by rw [h, h']
theorem inline_spec_b {w w' : World} (h : Below w.heap.size w w') : Below w.heap.size w w' := h
set_option maxHeartbeats 1000000 in
theorem target_spec (A : Option Addr) (n c : Nat) (p q t v : Int) (l : List UInt8) (w : World) (hl : IsB w A n l) (hc : n ≤ c) (hn : n ≤ 9223372036854775807) :
    Calls Tryz.prog 16 #[.slice A n c, .agg #[.int .i64 p, .int .i64 q, .int .i64 t, .int .i64 v]] w fun e w' => e = .returned (.tuple #[.int .i64 (tgt l p q t v), .int .i64 (tgtE l p q t v)]) ∧ Below w.heap.size w w' := by
  have hlen := hl.1
  subst hlen
  have HL := Lib.hid (hl.alloc (.cells #[.int .i64 p, .int .i64 q, .int .i64 t, .int .i64 v] 36))
  have HK := Lib.hid (Blk.new w 36 #[.int .i64 p, .int .i64 q, .int .i64 t, .int .i64 v])
  have HB := Lib.hid ((Below.refl w.heap.size w).alloc (Nat.le_refl _) (.cells #[.int .i64 p, .int .i64 q, .int .i64 t, .int .i64 v] 36))
  clear hl
  go_enter Tryz.func16, Tryz.ntmps16
  go_wp2_with fail
  go_at_call 14
  refine (may_spec A l.length c p q t v _ hn).mono ?_
  rintro e w1 ⟨rfl, hb⟩
  by_cases hm : mayE l.length p q t v = 0
  · rw [hm]
    have HB := Lib.hid (pure_below HB.out hb); have HK := Lib.hid (HK.out.pure hb); have HL := Lib.hid (HL.out.pure hb); have c0 := cell0 HK.out; have c1 := cell1 HK.out; have c2 := cell2 HK.out; have c3 := cell3 HK.out; clear hb
    go_wp2_with fail
    go_at_call 17
    refine (inline_spec t _).mono ?_
    rintro e w2 ⟨rfl, hb⟩
    have hb := inline_spec_b hb
    clear c0 c1 c2 c3
    cases hi : inlineT t with
    | true =>
      have HE := Lib.hid (tgtE_inl hm hi)
      have HT := Lib.hid (tgt_inl hm hi)
      have HB := Lib.hid (pure_below HB.out hb)
      clear hm hi hb
      go_wp2
      go_ret2
      exact ⟨ret_t2 HT.out.symm HE.out.symm, HB.out⟩
    | false =>
      obtain ⟨h1, h2⟩ := mayE_ok.1 hm
      have h2 := inB_iff.1 h2
      have h1 := formed_iff.1 h1
      have hp0 := h2.1
      have hpn := h2.2.2
      have hq1 : 1 ≤ q := by have := isW_iff.1 h1.2.1; omega
      have HLE := Lib.hid (may_load hm)
      have HB := Lib.hid (pure_below HB.out hb); have HK := Lib.hid (HK.out.pure hb); have HL := Lib.hid (HL.out.pure hb); have c0 := cell0 HK.out; have c1 := cell1 HK.out; have c2 := cell2 HK.out; have c3 := cell3 HK.out; clear hb
      go_wp2_with fail
      go_at_call 47
      refine (load_spec A l.length c p q _ _ HL.out hc hn).mono ?_
      rw [HLE.out]
      rintro e w3 ⟨rfl, hb⟩
      clear c0 c1 c2 c3
      have HB := Lib.hid (pure_below HB.out hb); have HK := Lib.hid (HK.out.pure hb); have HL := Lib.hid (HL.out.pure hb); have c0 := cell0 HK.out; have c1 := cell1 HK.out; have c2 := cell2 HK.out; have c3 := cell3 HK.out; clear hb
      by_cases hu : p < (loadU l p q : Int)
      · have HE := Lib.hid (tgtE_off hm hi hu)
        have HT := Lib.hid (tgt_off hm hi hu)
        generalize loadU l p q = u at hu
        clear hm hi h1 h2
        have hw : IntKind.u64.wrap p = p := u64_in p (by omega)
        go_wp2
        go_ret2
        exact ⟨ret_t2 HT.out.symm HE.out.symm, HB.out⟩
      · have HE := Lib.hid (tgtE_ok hm hi hu)
        have HT := Lib.hid (tgt_ok hm hi hu)
        have HU := Lib.hid (show loadU l p q = loadU l p q from rfl)
        obtain ⟨u, hue⟩ : ∃ u, loadU l p q = u := ⟨_, rfl⟩
        rw [hue] at hu HT ⊢
        clear hm hi h1 h2 hue HU
        have hw : IntKind.u64.wrap p = p := u64_in p (by omega)
        have hw2 : wrap64 (u : Int) = u := wrap64_in _ (by omega)
        have hw3 : wrap64 (p - (u : Int)) = p - u := wrap64_in _ (by omega)
        go_wp2
        go_ret2
        exact ⟨ret_t2 HT.out.symm HE.out.symm, HB.out⟩
  · have HE := Lib.hid (tgtE_may hm)
    have HT := Lib.hid (tgt_may hm)
    have hne : (mayE l.length p q t v != 0) = true := by simpa using hm
    have HB := Lib.hid (pure_below HB.out hb); have HK := Lib.hid (HK.out.pure hb); have HL := Lib.hid (HL.out.pure hb); have c0 := cell0 HK.out; have c1 := cell1 HK.out; have c2 := cell2 HK.out; have c3 := cell3 HK.out; clear hb
    clear hm
    go_wp2
    go_ret2
    exact ⟨ret_t2 HT.out.symm HE.out.symm, HB.out⟩
end Go.Proofs.YtfoifdoaleaekaaGreat

namespace Go.Proofs.YtfoifdoaleaekaaGreat
open Go.RowKit Go.Acc
theorem ret_root {a b c d e : Int} {r : (Int × Int × Int × Int)} {f : Int} (h : r = (a, b, c, d)) (h' : f = e) :
    Ending.returned (.tuple #[.agg #[.int .i64 a, .int .i64 b, .int .i64 c, .int .i64 d], .int .i64 e]) = .returned (.tuple #[.agg #[.int .i64 r.1, .int .i64 r.2.1, .int .i64 r.2.2.1, .int .i64 r.2.2.2], .int .i64 f]) := by
  subst h h'; rfl
theorem rootR_no {l : List UInt8} (h : rootE l ≠ 0) : rootR l = (0, 0, 0, 0) := if_neg h
theorem rootE_1 {l : List UInt8} (h : l.length < 3) : rootE l = 210 := if_pos (.inl h)
theorem rootE_2 {l : List UInt8} {x : UInt8} (hx : l.getD (l.length - 1) 0 = x) (hw : isW (x.toNat : Int) = false) : rootE l = 210 := by
  unfold rootE
  rw [hx, if_pos (.inr hw)]
theorem rootE_3 {l : List UInt8} {x y : UInt8} (h3 : ¬ l.length < 3) (hx : l.getD (l.length - 1) 0 = x) (hy : l.getD (l.length - 2) 0 = y) (hw : isW (x.toNat : Int) = true) (hu : unE y ≠ 0) : rootE l = unE y := by
  unfold rootE
  rw [hx, hy, if_neg (by rw [hw]; simp; omega), if_pos hu]
theorem rootE_4 {l : List UInt8} {x y : UInt8} (h3 : ¬ l.length < 3) (hx : l.getD (l.length - 1) 0 = x) (hy : l.getD (l.length - 2) 0 = y) (hw : isW (x.toNat : Int) = true) (hu : unE y = 0) :
    rootE l = if (l.length : Int) - 2 - x.toNat < 0 ∨ ((l.length : Int) - 2 - x.toNat) % x.toNat ≠ 0 then 210 else 0 := by
  unfold rootE
  rw [hx, hy, if_neg (by rw [hw]; simp; omega), if_neg (by simpa using hu)]
theorem rootR_ok {l : List UInt8} {x y : UInt8} (hx : l.getD (l.length - 1) 0 = x) (hy : l.getD (l.length - 2) 0 = y) (he : rootE l = 0) : rootR l = ((l.length : Int) - 2 - x.toNat, ((x.toNat : Nat) : Int), unT y, unW y) := by
  unfold rootR
  rw [if_pos he, hx, hy]
set_option maxHeartbeats 1000000 in
theorem root_spec (A : Option Addr) (n c : Nat) (l : List UInt8) (w : World) (hl : IsB w A n l) (hn : n ≤ 9223372036854775807) :
    Calls Tryz.prog 13 #[.slice A n c] w fun e w' => e = .returned (.tuple #[.agg #[.int .i64 (rootR l).1, .int .i64 (rootR l).2.1, .int .i64 (rootR l).2.2.1, .int .i64 (rootR l).2.2.2], .int .i64 (rootE l)]) ∧ Below w.heap.size w w' := by
  have hlen := hl.1
  subst hlen
  by_cases h3 : l.length < 3
  · have HE := Lib.hid (rootE_1 h3)
    have HR := Lib.hid (rootR_no (by rw [rootE_1 h3]; decide))
    go_enter Tryz.func13, Tryz.ntmps13
    go_wp2
    refine bodyPost_ret (v := .tuple #[.agg #[.int .i64 0, .int .i64 0, .int .i64 0, .int .i64 0], .int .i64 210]) (by simp [results, Tryz.results13, go_sem]) rfl ⟨ret_root HR.out HE.out, ?_⟩
    exact (Below.refl _ _).alloc (Nat.le_refl _) _
  · obtain ⟨b, off, rfl, hk1, v1⟩ := isb_at hl (k := l.length - 1) (by omega)
    obtain ⟨b', off', e', hk2, v2⟩ := isb_at hl (k := l.length - 2) (by omega)
    injection e' with e'
    injection e' with e1 e2
    subst e1 e2
    have hx : l.getD (l.length - 1) 0 = l[l.length - 1] := by rw [List.getD_eq_getElem?_getD, List.getElem?_eq_getElem hk1]; rfl
    have hy : l.getD (l.length - 2) 0 = l[l.length - 2] := by rw [List.getD_eq_getElem?_getD, List.getElem?_eq_getElem hk2]; rfl
    generalize l[l.length - 1] = x at hx v1
    generalize l[l.length - 2] = y at hy v2
    have hxb := x.toNat_lt
    have HX := Lib.hid hx
    have HY := Lib.hid hy
    have HV1 := Lib.hid v1
    have HV2 := Lib.hid v2
    have v1 : (w.alloc (.cells #[.int .i64 0, .int .i64 0, .int .i64 0, .int .i64 0] 36)).cell? ⟨b, off + (l.length - 1), none⟩ = some (.int .u8 (x.toNat : Int)) := cell_pure ((Below.refl _ _).alloc (Nat.le_refl _) _) HV1.out
    clear hl hx hy hk1 hk2 v2
    go_enter Tryz.func13, Tryz.ntmps13
    go_wp2_with fail
    go_at_call 41
    refine (iswidth_spec _ _).mono ?_
    rintro e w1 ⟨rfl, rfl⟩
    cases hw : isW (x.toNat : Int) with
    | false =>
      have HE := Lib.hid (rootE_2 HX.out hw)
      have HR := Lib.hid (rootR_no (by rw [rootE_2 HX.out hw]; decide))
      clear hw
      go_wp2
      refine bodyPost_ret (v := .tuple #[.agg #[.int .i64 0, .int .i64 0, .int .i64 0, .int .i64 0], .int .i64 210]) (by simp [results, Tryz.results13, go_sem]) rfl ⟨ret_root HR.out HE.out, ?_⟩
      exact (Below.refl _ _).alloc (Nat.le_refl _) _
    | true =>
      have HW := Lib.hid hw
      have hx1 : 1 ≤ x.toNat ∧ x.toNat ≤ 8 := by have := isW_iff.1 hw; omega
      have hx2 := hx1.1
      have hx3 := hx1.2
      have v2 : (w.alloc (.cells #[.int .i64 0, .int .i64 0, .int .i64 0, .int .i64 0] 36)).cell? ⟨b, off + (l.length - 2), none⟩ = some (.int .u8 (y.toNat : Int)) := cell_pure ((Below.refl _ _).alloc (Nat.le_refl _) _) HV2.out
      clear hw hx1
      go_wp2_with fail
      go_at_call 42
      refine (unpack_spec y _).mono ?_
      rintro e w1 ⟨rfl, hb⟩
      have HB := Lib.hid (pure_trans ((Below.refl w.heap.size w).alloc (Nat.le_refl _) _) hb)
      have HK := Lib.hid ((Blk.new w 36 #[.int .i64 0, .int .i64 0, .int .i64 0, .int .i64 0]).pure hb)
      have c0 := cell0 HK.out
      have c1 := cell1 HK.out
      have c2 := cell2 HK.out
      have c3 := cell3 HK.out
      have f0 := HK.out.frozen 0
      have f1 := HK.out.frozen 1
      have f2 := HK.out.frozen 2
      have f3 := HK.out.frozen 3
      have v1 := cell_pure HB.out HV1.out
      clear v2 hb
      by_cases hu : unE y = 0
      · have HE4 := Lib.hid (rootE_4 h3 HX.out HY.out HW.out hu)
        rw [hu]
        clear hu
        by_cases hp : (l.length : Int) - 2 - x.toNat < 0
        · have HE := Lib.hid (show rootE l = 210 by rw [HE4.out, if_pos (.inl hp)])
          have HR := Lib.hid (rootR_no (by rw [HE.out]; decide))
          go_wp2
          refine bodyPost_ret (v := .tuple #[.agg #[.int .i64 0, .int .i64 0, .int .i64 0, .int .i64 0], .int .i64 210]) (by simp [results, Tryz.results13, go_sem, c0, c1, c2, c3]) rfl ⟨ret_root HR.out HE.out, ?_⟩
          exact (((HB.out.setCell (Nat.le_refl _) _).setCell (Nat.le_refl _) _).setCell (Nat.le_refl _) _).setCell (Nat.le_refl _) _
        · have hp0 : 0 ≤ (l.length : Int) - 2 - x.toNat := by omega
          have hxn : (x.toNat == 0) = false := by simp; omega
          by_cases hm : ((l.length : Int) - 2 - x.toNat) % x.toNat = 0
          · have HE := Lib.hid (show rootE l = 0 by rw [HE4.out, if_neg (by omega)])
            have HR := Lib.hid (rootR_ok HX.out HY.out HE.out)
            have hm2 : (((l.length : Int) - 2) % (x.toNat : Int) != 0) = false := by simpa using hm
            clear hm
            go_wp2
            refine bodyPost_ret (v := .tuple #[.agg #[.int .i64 ((l.length : Int) - 2 - x.toNat), .int .i64 ((x.toNat : Nat) : Int), .int .i64 (unT y), .int .i64 (unW y)], .int .i64 0]) (by simp [results, Tryz.results13, go_sem, c0, c1, c2, c3]) rfl ⟨ret_root HR.out HE.out, ?_⟩
            exact (((HB.out.setCell (Nat.le_refl _) _).setCell (Nat.le_refl _) _).setCell (Nat.le_refl _) _).setCell (Nat.le_refl _) _
          · have HE := Lib.hid (show rootE l = 210 by rw [HE4.out, if_pos (.inr hm)])
            have HR := Lib.hid (rootR_no (by rw [HE.out]; decide))
            have hm2 : (((l.length : Int) - 2) % (x.toNat : Int) != 0) = true := by simpa using hm
            clear hm
            go_wp2
            refine bodyPost_ret (v := .tuple #[.agg #[.int .i64 0, .int .i64 0, .int .i64 0, .int .i64 0], .int .i64 210]) (by simp [results, Tryz.results13, go_sem, c0, c1, c2, c3]) rfl ⟨ret_root HR.out HE.out, ?_⟩
            exact (((HB.out.setCell (Nat.le_refl _) _).setCell (Nat.le_refl _) _).setCell (Nat.le_refl _) _).setCell (Nat.le_refl _) _
      · have HE := Lib.hid (rootE_3 h3 HX.out HY.out HW.out hu)
        have HR := Lib.hid (rootR_no (by rw [HE.out]; exact hu))
        have hne : (unE y != 0) = true := by simpa using hu
        clear hu
        go_wp2
        refine bodyPost_ret (v := .tuple #[.agg #[.int .i64 0, .int .i64 0, .int .i64 0, .int .i64 0], .int .i64 (unE y)]) (by simp [results, Tryz.results13, go_sem, c0, c1, c2, c3]) rfl ⟨ret_root HR.out HE.out, ?_⟩
        exact (((HB.out.setCell (Nat.le_refl _) _).setCell (Nat.le_refl _) _).setCell (Nat.le_refl _) _).setCell (Nat.le_refl _) _
end Go.Proofs.YtfoifdoaleaekaaGreat

namespace Go.Proofs.YtfoifdoaleaekaaGreat
open Go.RowKit Go.Acc
theorem shindex {t : Int} (ht : isT t = true) : ∀ w, (Instr.index 99 (.agg shS) (.int .i64 t)).run Tryz.prog w = .ok (.agg (shR t.toNat).toArray) w := by
  have h : ∀ n : Fin 37, ∀ w, (Instr.index 99 (.agg shS) (.int .i64 ((n.val : Nat) : Int))).run Tryz.prog w = .ok (.agg (shR ((n.val : Nat) : Int).toNat).toArray) w := by
    intro n
    rcases n with ⟨n, hn⟩
    have : n = 0 ∨ n = 1 ∨ n = 2 ∨ n = 3 ∨ n = 4 ∨ n = 5 ∨ n = 6 ∨ n = 7 ∨ n = 8 ∨ n = 9 ∨ n = 10 ∨ n = 11 ∨ n = 12 ∨ n = 13 ∨ n = 14 ∨ n = 15 ∨ n = 16 ∨ n = 17 ∨ n = 18 ∨ n = 19 ∨ n = 20 ∨ n = 21 ∨ n = 22 ∨ n = 23 ∨ n = 24 ∨ n = 25 ∨ n = 26 ∨ n = 27 ∨ n = 28 ∨ n = 29 ∨ n = 30 ∨ n = 31 ∨ n = 32 ∨ n = 33 ∨ n = 34 ∨ n = 35 ∨ n = 36 := by omega
    rcases this with rfl | rfl | rfl | rfl | rfl | rfl | rfl | rfl | rfl | rfl | rfl | rfl | rfl | rfl | rfl | rfl | rfl | rfl | rfl | rfl | rfl | rfl | rfl | rfl | rfl | rfl | rfl | rfl | rfl | rfl | rfl | rfl | rfl | rfl | rfl | rfl | rfl
    all_goals
      intro w
      kernel_rfl
  exact t37_all (p := fun t => ∀ w, (Instr.index 99 (.agg shS) (.int .i64 t)).run Tryz.prog w = .ok (.agg (shR t.toNat).toArray) w) h ht
def isL (t : Int) : Bool := decide (t = 9 ∨ t = 10) || vecT t
def tagT (t : Int) : Bool := decide (t = 9 ∨ t = 10)
def aheadT (t : Int) : Nat := if t = 9 then 3 else if 0 < manyT t then 0 else 1
def tgs (t : Int) : Nat := if tagT t = true then 1 else 0
theorem shcases {t : Int} (ht : isT t = true) :
    (isL t = false ∧ shR t.toNat = [.int .i64 0, .nilFunc, .nilFunc, .int .i64 0]) ∨
    (isL t = true ∧ 0 < manyT t ∧ manyT t ≤ 4 ∧ tagT t = false ∧ aheadT t = 0 ∧ shR t.toNat = [.int .i64 0, fnV 91, fnV 92, .int .i64 0]) ∨
    (isL t = true ∧ manyT t = 0 ∧ (aheadT t = 1 ∨ aheadT t = 3) ∧ shR t.toNat = [.int .i64 (aheadT t : Int), fnV 93, (if tagT t = true then fnV 94 else fnV 92), .int .i64 (tgs t : Int)]) := by
  have hb := isT_iff.1 ht
  have : t = 0 ∨ t = 1 ∨ t = 2 ∨ t = 3 ∨ t = 4 ∨ t = 5 ∨ t = 6 ∨ t = 7 ∨ t = 8 ∨ t = 9 ∨ t = 10 ∨ t = 11 ∨ t = 12 ∨ t = 13 ∨ t = 14 ∨ t = 15 ∨ t = 16 ∨ t = 17 ∨ t = 18 ∨ t = 19 ∨ t = 20 ∨ t = 21 ∨ t = 22 ∨ t = 23 ∨ t = 24 ∨ t = 25 ∨ t = 26 ∨ t = 27 ∨ t = 28 ∨ t = 29 ∨ t = 30 ∨ t = 31 ∨ t = 32 ∨ t = 33 ∨ t = 34 ∨ t = 35 ∨ t = 36 := by omega
  clear hb ht
  rcases this with rfl | rfl | rfl | rfl | rfl | rfl | rfl | rfl | rfl | rfl | rfl | rfl | rfl | rfl | rfl | rfl | rfl | rfl | rfl | rfl | rfl | rfl | rfl | rfl | rfl | rfl | rfl | rfl | rfl | rfl | rfl | rfl | rfl | rfl | rfl | rfl | rfl
  all_goals first
    | exact .inl ⟨by decide, rfl⟩
    | exact .inr (.inl ⟨by decide, by decide, by decide, by decide, by decide, rfl⟩)
    | exact .inr (.inr ⟨by decide, by decide, by decide, rfl⟩)
set_option maxRecDepth 100000 in
set_option maxHeartbeats 400000 in
theorem lfixed_spec (A : Option Addr) (n c : Nat) (p q t v a : Int) (M : Nat) (w : World) (hm : manyT t = M) (hM : M ≤ 4) :
    Calls Tryz.prog 91 #[.slice A n c, .agg #[.int .i64 p, .int .i64 q, .int .i64 t, .int .i64 v], .int .i64 a] w fun e w' => e = .returned (.int .u64 (M : Int)) ∧ Below w.heap.size w w' := by
  have HB := Lib.hid ((Below.refl w.heap.size w).alloc (Nat.le_refl _) (.cells #[.int .i64 p, .int .i64 q, .int .i64 t, .int .i64 v] 36))
  have HM := Lib.hid hm
  clear hm
  go_enter Tryz.func91, Tryz.ntmps91
  go_wp2_with fail
  go_at_call 90
  refine (elem_spec t _).mono ?_
  rw [HM.out]
  rintro e w1 ⟨rfl, hb⟩
  replace HB := Lib.hid (pure_below HB.out hb)
  clear hb
  have hw : IntKind.u64.wrap (M : Int) = M := u64_in _ (by omega)
  go_wp2
  go_ret
  exact ⟨rfl, HB.out⟩
set_option maxRecDepth 100000 in
set_option maxHeartbeats 400000 in
theorem length_spec (A : Option Addr) (n c : Nat) (p q t : Int) (v a : Nat) (l : List UInt8) (w : World) (h : IsB w A n l) (hc : n ≤ c) (hn : n ≤ 1099511627776) (ha : a ≤ 1099511627776) (hv : v ≤ 8) :
    Calls Tryz.prog 93 #[.slice A n c, .agg #[.int .i64 p, .int .i64 q, .int .i64 t, .int .i64 v], .int .i64 a] w fun e w' => e = .returned (.int .u64 (loadU l ((a : Int) - v) v : Nat)) ∧ Below w.heap.size w w' := by
  have HL := Lib.hid (h.alloc (.cells #[.int .i64 p, .int .i64 q, .int .i64 t, .int .i64 v] 36))
  have HB := Lib.hid ((Below.refl w.heap.size w).alloc (Nat.le_refl _) (.cells #[.int .i64 p, .int .i64 q, .int .i64 t, .int .i64 v] 36))
  clear h
  go_enter Tryz.func93, Tryz.ntmps93
  go_wp2_with fail
  go_at_call 47
  refine (load_spec A n c ((a : Int) - v) v l _ HL.out hc (by omega)).mono ?_
  rintro e w1 ⟨rfl, hb⟩
  replace HB := Lib.hid (pure_below HB.out hb)
  clear hb
  go_wp2
  go_ret
  exact ⟨rfl, HB.out⟩
theorem length_is (A : Option Addr) (n c : Nat) (p q t : Int) (v a U : Nat) (l : List UInt8) (w : World) (h : IsB w A n l) (hc : n ≤ c) (hn : n ≤ 1099511627776) (ha : a ≤ 1099511627776) (hv : v ≤ 8) (hU : loadU l ((a : Int) - v) v = U) :
    Calls Tryz.prog 93 #[.slice A n c, .agg #[.int .i64 p, .int .i64 q, .int .i64 t, .int .i64 v], .int .i64 a] w fun e w' => e = .returned (.int .u64 (U : Int)) ∧ Below w.heap.size w w' := by
  subst hU
  exact length_spec A n c p q t v a l w h hc hn ha hv
end Go.Proofs.YtfoifdoaleaekaaGreat
