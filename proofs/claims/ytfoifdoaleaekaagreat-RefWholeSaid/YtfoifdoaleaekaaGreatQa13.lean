/-
  Package ref and its reference: Target.
  Package ref and its reference: Root.
  Package ref: the examples of the chapter.
  Package scalar: the readers, a map of functions.
  Package tag: Pack.
-/
import Derived.Test.YtfoifdoaleaekaaGreatQa12
import Derived.MapKept
import Derived.Carry
namespace Go.Proofs.YtfoifdoaleaekaaGreat
open Go.RowKit Go.Acc
theorem ret_t2 {k k' : IntKind} {a b c d : Int} (h : a = b) (h' : c = d) : Ending.returned (.tuple #[.int k a, .int k' c]) = .returned (.tuple #[.int k b, .int k' d]) := by rw [h, h']
theorem inline_spec_b {w w' : World} (h : Below w.heap.size w w') : Below w.heap.size w w' := h
set_option maxHeartbeats 1000000 in
theorem target_spec (A : Option Addr) (n c : Nat) (p q t v : Int) (l : List UInt8) (w : World) (hl : IsB w A n l) (hc : n ≤ c) (hn : n ≤ 9223372036854775807) :
    Calls Tryz.prog 16 #[.slice A n c, .agg #[.int .i64 p, .int .i64 q, .int .i64 t, .int .i64 v]] w fun e w' => e = .returned (.tuple #[.int .i64 (tgt l p q t v), .int .i64 (tgtE l p q t v)]) ∧ Below w.heap.size w w' := by
  have hlen := hl.1
  subst hlen
  have HL := Lib.hid (hl.alloc (.cells #[.int .i64 p, .int .i64 q, .int .i64 t, .int .i64 v] 36))
  have HK := Lib.hid (Blk.new w 36 #[.int .i64 p, .int .i64 q, .int .i64 t, .int .i64 v])
  have HB := Lib.hid ((Below.refl w.heap.size w).alloc (Nat.le_refl _) (.cells #[.int .i64 p, .int .i64 q, .int .i64 t, .int .i64 v] 36))
  clear hl
  go_enter Tryz.func16, Tryz.ntmps16
  go_wp2_with fail
  go_at_call 14
  refine (may_spec A l.length c p q t v _ hn).mono ?_
  rintro e w1 ⟨rfl, hb⟩
  by_cases hm : mayE l.length p q t v = 0
  · rw [hm]
    have HB := Lib.hid (pure_below HB.out hb); have HK := Lib.hid (HK.out.pure hb); have HL := Lib.hid (HL.out.pure hb); have c0 := cell0 HK.out; have c1 := cell1 HK.out; have c2 := cell2 HK.out; have c3 := cell3 HK.out; clear hb
    go_wp2_with fail
    go_at_call 17
    refine (inline_spec t _).mono ?_
    rintro e w2 ⟨rfl, hb⟩
    have hb := inline_spec_b hb
    clear c0 c1 c2 c3
    cases hi : inlineT t with
    | true =>
      have HE := Lib.hid (tgtE_inl hm hi)
      have HT := Lib.hid (tgt_inl hm hi)
      have HB := Lib.hid (pure_below HB.out hb)
      clear hm hi hb
      go_wp2
      go_ret2
      exact ⟨ret_t2 HT.out.symm HE.out.symm, HB.out⟩
    | false =>
      obtain ⟨h1, h2⟩ := mayE_ok.1 hm
      have h2 := inB_iff.1 h2
      have h1 := formed_iff.1 h1
      have hp0 := h2.1
      have hpn := h2.2.2
      have hq1 : 1 ≤ q := by have := isW_iff.1 h1.2.1; omega
      have HLE := Lib.hid (may_load hm)
      have HB := Lib.hid (pure_below HB.out hb); have HK := Lib.hid (HK.out.pure hb); have HL := Lib.hid (HL.out.pure hb); have c0 := cell0 HK.out; have c1 := cell1 HK.out; have c2 := cell2 HK.out; have c3 := cell3 HK.out; clear hb
      go_wp2_with fail
      go_at_call 47
      refine (load_spec A l.length c p q _ _ HL.out hc hn).mono ?_
      rw [HLE.out]
      rintro e w3 ⟨rfl, hb⟩
      clear c0 c1 c2 c3
      have HB := Lib.hid (pure_below HB.out hb); have HK := Lib.hid (HK.out.pure hb); have HL := Lib.hid (HL.out.pure hb); have c0 := cell0 HK.out; have c1 := cell1 HK.out; have c2 := cell2 HK.out; have c3 := cell3 HK.out; clear hb
      by_cases hu : p < (loadU l p q : Int)
      · have HE := Lib.hid (tgtE_off hm hi hu)
        have HT := Lib.hid (tgt_off hm hi hu)
        generalize loadU l p q = u at hu
        clear hm hi h1 h2
        have hw : IntKind.u64.wrap p = p := u64_in p (by omega)
        go_wp2
        go_ret2
        exact ⟨ret_t2 HT.out.symm HE.out.symm, HB.out⟩
      · have HE := Lib.hid (tgtE_ok hm hi hu)
        have HT := Lib.hid (tgt_ok hm hi hu)
        have HU := Lib.hid (show loadU l p q = loadU l p q from rfl)
        obtain ⟨u, hue⟩ : ∃ u, loadU l p q = u := ⟨_, rfl⟩
        rw [hue] at hu HT ⊢
        clear hm hi h1 h2 hue HU
        have hw : IntKind.u64.wrap p = p := u64_in p (by omega)
        have hw2 : wrap64 (u : Int) = u := wrap64_in _ (by omega)
        have hw3 : wrap64 (p - (u : Int)) = p - u := wrap64_in _ (by omega)
        go_wp2
        go_ret2
        exact ⟨ret_t2 HT.out.symm HE.out.symm, HB.out⟩
  · have HE := Lib.hid (tgtE_may hm)
    have HT := Lib.hid (tgt_may hm)
    have hne : (mayE l.length p q t v != 0) = true := by simpa using hm
    have HB := Lib.hid (pure_below HB.out hb); have HK := Lib.hid (HK.out.pure hb); have HL := Lib.hid (HL.out.pure hb); have c0 := cell0 HK.out; have c1 := cell1 HK.out; have c2 := cell2 HK.out; have c3 := cell3 HK.out; clear hb
    clear hm
    go_wp2
    go_ret2
    exact ⟨ret_t2 HT.out.symm HE.out.symm, HB.out⟩
end Go.Proofs.YtfoifdoaleaekaaGreat

namespace Go.Proofs.YtfoifdoaleaekaaGreat
open Go.RowKit Go.Acc
theorem ret_root {a b c d e : Int} {r : (Int × Int × Int × Int)} {f : Int} (h : r = (a, b, c, d)) (h' : f = e) :
    Ending.returned (.tuple #[.agg #[.int .i64 a, .int .i64 b, .int .i64 c, .int .i64 d], .int .i64 e]) = .returned (.tuple #[.agg #[.int .i64 r.1, .int .i64 r.2.1, .int .i64 r.2.2.1, .int .i64 r.2.2.2], .int .i64 f]) := by
  subst h h'; rfl
theorem rootR_no {l : List UInt8} (h : rootE l ≠ 0) : rootR l = (0, 0, 0, 0) := if_neg h
theorem rootE_1 {l : List UInt8} (h : l.length < 3) : rootE l = 210 := if_pos (.inl h)
theorem rootE_2 {l : List UInt8} {x : UInt8} (hx : l.getD (l.length - 1) 0 = x) (hw : isW (x.toNat : Int) = false) : rootE l = 210 := by
  unfold rootE
  rw [hx, if_pos (.inr hw)]
theorem rootE_3 {l : List UInt8} {x y : UInt8} (h3 : ¬ l.length < 3) (hx : l.getD (l.length - 1) 0 = x) (hy : l.getD (l.length - 2) 0 = y) (hw : isW (x.toNat : Int) = true) (hu : unE y ≠ 0) : rootE l = unE y := by
  unfold rootE
  rw [hx, hy, if_neg (by rw [hw]; simp; omega), if_pos hu]
theorem rootE_4 {l : List UInt8} {x y : UInt8} (h3 : ¬ l.length < 3) (hx : l.getD (l.length - 1) 0 = x) (hy : l.getD (l.length - 2) 0 = y) (hw : isW (x.toNat : Int) = true) (hu : unE y = 0) :
    rootE l = if (l.length : Int) - 2 - x.toNat < 0 ∨ ((l.length : Int) - 2 - x.toNat) % x.toNat ≠ 0 then 210 else 0 := by
  unfold rootE
  rw [hx, hy, if_neg (by rw [hw]; simp; omega), if_neg (by simpa using hu)]
theorem rootR_ok {l : List UInt8} {x y : UInt8} (hx : l.getD (l.length - 1) 0 = x) (hy : l.getD (l.length - 2) 0 = y) (he : rootE l = 0) : rootR l = ((l.length : Int) - 2 - x.toNat, ((x.toNat : Nat) : Int), unT y, unW y) := by
  unfold rootR
  rw [if_pos he, hx, hy]
set_option maxHeartbeats 1000000 in
theorem root_spec (A : Option Addr) (n c : Nat) (l : List UInt8) (w : World) (hl : IsB w A n l) (hn : n ≤ 9223372036854775807) :
    Calls Tryz.prog 13 #[.slice A n c] w fun e w' => e = .returned (.tuple #[.agg #[.int .i64 (rootR l).1, .int .i64 (rootR l).2.1, .int .i64 (rootR l).2.2.1, .int .i64 (rootR l).2.2.2], .int .i64 (rootE l)]) ∧ Below w.heap.size w w' := by
  have hlen := hl.1
  subst hlen
  by_cases h3 : l.length < 3
  · have HE := Lib.hid (rootE_1 h3)
    have HR := Lib.hid (rootR_no (by rw [rootE_1 h3]; decide))
    go_enter Tryz.func13, Tryz.ntmps13
    go_wp2
    refine bodyPost_ret (v := .tuple #[.agg #[.int .i64 0, .int .i64 0, .int .i64 0, .int .i64 0], .int .i64 210]) (by simp [results, Tryz.results13, go_sem]) rfl ⟨ret_root HR.out HE.out, ?_⟩
    exact (Below.refl _ _).alloc (Nat.le_refl _) _
  · obtain ⟨b, off, rfl, hk1, v1⟩ := isb_at hl (k := l.length - 1) (by omega)
    obtain ⟨b', off', e', hk2, v2⟩ := isb_at hl (k := l.length - 2) (by omega)
    injection e' with e'
    injection e' with e1 e2
    subst e1 e2
    have hx : l.getD (l.length - 1) 0 = l[l.length - 1] := by rw [List.getD_eq_getElem?_getD, List.getElem?_eq_getElem hk1]; rfl
    have hy : l.getD (l.length - 2) 0 = l[l.length - 2] := by rw [List.getD_eq_getElem?_getD, List.getElem?_eq_getElem hk2]; rfl
    generalize l[l.length - 1] = x at hx v1
    generalize l[l.length - 2] = y at hy v2
    have hxb := x.toNat_lt
    have HX := Lib.hid hx
    have HY := Lib.hid hy
    have HV1 := Lib.hid v1
    have HV2 := Lib.hid v2
    have v1 : (w.alloc (.cells #[.int .i64 0, .int .i64 0, .int .i64 0, .int .i64 0] 36)).cell? ⟨b, off + (l.length - 1), none⟩ = some (.int .u8 (x.toNat : Int)) := cell_pure ((Below.refl _ _).alloc (Nat.le_refl _) _) HV1.out
    clear hl hx hy hk1 hk2 v2
    go_enter Tryz.func13, Tryz.ntmps13
    go_wp2_with fail
    go_at_call 41
    refine (iswidth_spec _ _).mono ?_
    rintro e w1 ⟨rfl, rfl⟩
    cases hw : isW (x.toNat : Int) with
    | false =>
      have HE := Lib.hid (rootE_2 HX.out hw)
      have HR := Lib.hid (rootR_no (by rw [rootE_2 HX.out hw]; decide))
      clear hw
      go_wp2
      refine bodyPost_ret (v := .tuple #[.agg #[.int .i64 0, .int .i64 0, .int .i64 0, .int .i64 0], .int .i64 210]) (by simp [results, Tryz.results13, go_sem]) rfl ⟨ret_root HR.out HE.out, ?_⟩
      exact (Below.refl _ _).alloc (Nat.le_refl _) _
    | true =>
      have HW := Lib.hid hw
      have hx1 : 1 ≤ x.toNat ∧ x.toNat ≤ 8 := by have := isW_iff.1 hw; omega
      have hx2 := hx1.1
      have hx3 := hx1.2
      have v2 : (w.alloc (.cells #[.int .i64 0, .int .i64 0, .int .i64 0, .int .i64 0] 36)).cell? ⟨b, off + (l.length - 2), none⟩ = some (.int .u8 (y.toNat : Int)) := cell_pure ((Below.refl _ _).alloc (Nat.le_refl _) _) HV2.out
      clear hw hx1
      go_wp2_with fail
      go_at_call 42
      refine (unpack_spec y _).mono ?_
      rintro e w1 ⟨rfl, hb⟩
      have HB := Lib.hid (pure_trans ((Below.refl w.heap.size w).alloc (Nat.le_refl _) _) hb)
      have HK := Lib.hid ((Blk.new w 36 #[.int .i64 0, .int .i64 0, .int .i64 0, .int .i64 0]).pure hb)
      have c0 := cell0 HK.out
      have c1 := cell1 HK.out
      have c2 := cell2 HK.out
      have c3 := cell3 HK.out
      have f0 := HK.out.frozen 0
      have f1 := HK.out.frozen 1
      have f2 := HK.out.frozen 2
      have f3 := HK.out.frozen 3
      have v1 := cell_pure HB.out HV1.out
      clear v2 hb
      by_cases hu : unE y = 0
      · have HE4 := Lib.hid (rootE_4 h3 HX.out HY.out HW.out hu)
        rw [hu]
        clear hu
        by_cases hp : (l.length : Int) - 2 - x.toNat < 0
        · have HE := Lib.hid (show rootE l = 210 by rw [HE4.out, if_pos (.inl hp)])
          have HR := Lib.hid (rootR_no (by rw [HE.out]; decide))
          go_wp2
          refine bodyPost_ret (v := .tuple #[.agg #[.int .i64 0, .int .i64 0, .int .i64 0, .int .i64 0], .int .i64 210]) (by simp [results, Tryz.results13, go_sem, c0, c1, c2, c3]) rfl ⟨ret_root HR.out HE.out, ?_⟩
          exact (((HB.out.setCell (Nat.le_refl _) _).setCell (Nat.le_refl _) _).setCell (Nat.le_refl _) _).setCell (Nat.le_refl _) _
        · have hp0 : 0 ≤ (l.length : Int) - 2 - x.toNat := by omega
          have hxn : (x.toNat == 0) = false := by simp; omega
          by_cases hm : ((l.length : Int) - 2 - x.toNat) % x.toNat = 0
          · have HE := Lib.hid (show rootE l = 0 by rw [HE4.out, if_neg (by omega)])
            have HR := Lib.hid (rootR_ok HX.out HY.out HE.out)
            have hm2 : (((l.length : Int) - 2) % (x.toNat : Int) != 0) = false := by simpa using hm
            clear hm
            go_wp2
            refine bodyPost_ret (v := .tuple #[.agg #[.int .i64 ((l.length : Int) - 2 - x.toNat), .int .i64 ((x.toNat : Nat) : Int), .int .i64 (unT y), .int .i64 (unW y)], .int .i64 0]) (by simp [results, Tryz.results13, go_sem, c0, c1, c2, c3]) rfl ⟨ret_root HR.out HE.out, ?_⟩
            exact (((HB.out.setCell (Nat.le_refl _) _).setCell (Nat.le_refl _) _).setCell (Nat.le_refl _) _).setCell (Nat.le_refl _) _
          · have HE := Lib.hid (show rootE l = 210 by rw [HE4.out, if_pos (.inr hm)])
            have HR := Lib.hid (rootR_no (by rw [HE.out]; decide))
            have hm2 : (((l.length : Int) - 2) % (x.toNat : Int) != 0) = true := by simpa using hm
            clear hm
            go_wp2
            refine bodyPost_ret (v := .tuple #[.agg #[.int .i64 0, .int .i64 0, .int .i64 0, .int .i64 0], .int .i64 210]) (by simp [results, Tryz.results13, go_sem, c0, c1, c2, c3]) rfl ⟨ret_root HR.out HE.out, ?_⟩
            exact (((HB.out.setCell (Nat.le_refl _) _).setCell (Nat.le_refl _) _).setCell (Nat.le_refl _) _).setCell (Nat.le_refl _) _
      · have HE := Lib.hid (rootE_3 h3 HX.out HY.out HW.out hu)
        have HR := Lib.hid (rootR_no (by rw [HE.out]; exact hu))
        have hne : (unE y != 0) = true := by simpa using hu
        clear hu
        go_wp2
        refine bodyPost_ret (v := .tuple #[.agg #[.int .i64 0, .int .i64 0, .int .i64 0, .int .i64 0], .int .i64 (unE y)]) (by simp [results, Tryz.results13, go_sem, c0, c1, c2, c3]) rfl ⟨ret_root HR.out HE.out, ?_⟩
        exact (((HB.out.setCell (Nat.le_refl _) _).setCell (Nat.le_refl _) _).setCell (Nat.le_refl _) _).setCell (Nat.le_refl _) _
end Go.Proofs.YtfoifdoaleaekaaGreat

namespace Go.Proofs.YtfoifdoaleaekaaGreat
open Go.RowKit Go.Acc
/-- The bytes of a literal. -/
def unb (vs : Array Value) : List UInt8 := vs.toList.map fun v => match v with | .int _ z => UInt8.ofNat z.toNat | _ => 0
theorem isb_vs (w : World) (vs : Array Value) (n : Nat) (hn : vs.size = n) (h : vs.toList = (unb vs).flatMap bc) : IsB (w.alloc (.cells vs 5)) (some ⟨w.heap.size, 0, none⟩) n (unb vs) :=
  ⟨by rw [← hn]; simp [unb], fun j u hj => ⟨_, _, rfl, by rw [(Blk.new w 5 vs).cell, Nat.zero_add, ← Array.getElem?_toList, h]; exact hj⟩⟩
theorem root_spec2 (A : Option Addr) (n c : Nat) (l : List UInt8) (w : World) (a b d e f : Int) (hl : IsB w A n l) (hn : n ≤ 9223372036854775807) (h : rootR l = (a, b, d, e)) (h' : rootE l = f) :
    Calls Tryz.prog 13 #[.slice A n c] w fun e' w' => e' = .returned (.tuple #[.agg #[.int .i64 a, .int .i64 b, .int .i64 d, .int .i64 e], .int .i64 f]) ∧ Below w.heap.size w w' := by
  have := root_spec A n c l w hl hn
  rw [h, h'] at this
  exact this
set_option maxHeartbeats 400000 in
theorem of21_spec (p q t v : Int) (w : World) : Calls Tryz.prog 33 #[.int .i64 p, .int .i64 q, .int .i64 t, .int .i64 v] w fun e w' => e = .returned (.agg #[.int .i64 p, .int .i64 q, .int .i64 t, .int .i64 v]) ∧ Below w.heap.size w w' := by
  go_enter Tryz.func33, Tryz.ntmps33
  go_wp2
  refine bodyPost_ret (v := .agg #[.int .i64 p, .int .i64 q, .int .i64 t, .int .i64 v]) (by simp [results, Tryz.results33, go_sem]) rfl ⟨rfl, ?_⟩
  exact (Below.refl _ _).alloc (Nat.le_refl _) _
set_option maxHeartbeats 400000 in
theorem rootl_yes (A : Option Addr) (n c : Nat) (l : List UInt8) (w : World) (a b d e f : Int) (hl : IsB w A n l) (hn : n ≤ 9223372036854775807) (h : rootR l = (a, b, d, e)) (h' : rootE l = f) :
    Calls Tryz.prog 32 #[.agg #[.int .i64 a, .int .i64 b, .int .i64 d, .int .i64 e], .int .i64 f, .slice A n c] w fun e w' => e = .returned (.bool true) ∧ Below w.heap.size w w' := by
  have HL := Lib.hid (hl.alloc (.cells #[.int .i64 a, .int .i64 b, .int .i64 d, .int .i64 e] 36))
  have HK := Lib.hid (Blk.new w 36 #[.int .i64 a, .int .i64 b, .int .i64 d, .int .i64 e])
  have HB := Lib.hid ((Below.refl w.heap.size w).alloc (Nat.le_refl _) (.cells #[.int .i64 a, .int .i64 b, .int .i64 d, .int .i64 e] 36))
  have H1 := Lib.hid h
  have H2 := Lib.hid h'
  clear hl h h'
  go_enter Tryz.func32, Tryz.ntmps32
  go_wp2_with fail
  go_at_call 13
  refine (root_spec2 A n c l _ a b d e f HL.out hn H1.out H2.out).mono ?_
  rintro e w1 ⟨rfl, hb⟩
  have HB := Lib.hid (pure_below HB.out hb)
  have c0 := cell0 (HK.out.pure hb)
  have c1 := cell1 (HK.out.pure hb)
  have c2 := cell2 (HK.out.pure hb)
  have c3 := cell3 (HK.out.pure hb)
  have hlt := (HK.out.pure hb).lt
  clear hb
  go_wp2
  go_ret
  exact ⟨rfl, HB.out.alloc HB.out.size _⟩
theorem rootl_lit (w : World) (vs : Array Value) (n : Nat) (a b d e f : Int) (hn : vs.size = n) (hs : n ≤ 9223372036854775807) (h : vs.toList = (unb vs).flatMap bc) (h1 : rootR (unb vs) = (a, b, d, e)) (h2 : rootE (unb vs) = f) :
    Calls Tryz.prog 32 #[.agg #[.int .i64 a, .int .i64 b, .int .i64 d, .int .i64 e], .int .i64 f, .slice (some ⟨w.heap.size, 0, none⟩) n n] (w.alloc (.cells vs 5)) fun e w' => e = .returned (.bool true) ∧ Below w.heap.size w w' :=
  (rootl_yes _ n n (unb vs) _ a b d e f (isb_vs w vs n hn h) hs h1 h2).mono fun _ _ ⟨h, hb⟩ => ⟨h, pure_trans ((Below.refl w.heap.size w).alloc (Nat.le_refl _) _) hb⟩
set_option maxHeartbeats 400000 in
theorem leads_yes (A : Option Addr) (n c : Nat) (l : List UInt8) (w : World) (p q t v x f : Int) (hl : IsB w A n l) (hc : n ≤ c) (hn : n ≤ 9223372036854775807) (h : tgt l p q t v = x) (h' : tgtE l p q t v = f) :
    Calls Tryz.prog 34 #[.slice A n c, .agg #[.int .i64 p, .int .i64 q, .int .i64 t, .int .i64 v], .int .i64 x, .int .i64 f] w fun e w' => e = .returned (.bool true) ∧ Below w.heap.size w w' := by
  have HL := Lib.hid (hl.alloc (.cells #[.int .i64 p, .int .i64 q, .int .i64 t, .int .i64 v] 36))
  have H1 := Lib.hid h
  have H2 := Lib.hid h'
  clear hl h h'
  go_enter Tryz.func34, Tryz.ntmps34
  go_wp2_with fail
  go_at_call 16
  refine (target_spec A n c p q t v l _ HL.out hc hn).mono ?_
  rw [H1.out, H2.out]
  rintro e w1 ⟨rfl, hb⟩
  have HB := Lib.hid (pure_trans ((Below.refl w.heap.size w).alloc (Nat.le_refl _) _) hb)
  clear hb
  go_wp2
  go_ret
  exact ⟨rfl, HB.out⟩
set_option maxRecDepth 100000 in
set_option maxHeartbeats 4000000 in
theorem refworks_spec (w : World) : Calls Tryz.prog 8 #[] w fun e w' => e = .returned (.bool true) ∧ Below w.heap.size w w' := by
  have HK := Lib.hid (Blk.new w 36 #[.int .i64 0, .int .i64 0, .int .i64 0, .int .i64 0])
  have HB := Lib.hid ((Below.refl w.heap.size w).alloc (Nat.le_refl _) (.cells #[.int .i64 0, .int .i64 0, .int .i64 0, .int .i64 0] 36))
  go_enter Tryz.func8, Tryz.ntmps8
  go_wp2_with (first
    | (go_at_call 33; refine (of21_spec _ _ _ _ _).mono ?_; rintro e wn ⟨rfl, hb⟩; have HB := Lib.hid (pure_below HB.out hb); have HK := Lib.hid (HK.out.pure hb); have c0 := cell0 HK.out; have c1 := cell1 HK.out; have c2 := cell2 HK.out; have c3 := cell3 HK.out; have hlt := HK.out.lt; clear hb)
    | (go_at_call 32; refine (rootl_lit _ _ _ _ _ _ _ _ (by rfl) (by decide) (by rfl) (by decide) (by decide)).mono ?_; rintro e wn ⟨rfl, hb⟩; clear c0 c1 c2 c3 hlt; have HB := Lib.hid (pure_below HB.out hb); have HK := Lib.hid (HK.out.pure hb); have c0 := cell0 HK.out; have c1 := cell1 HK.out; have c2 := cell2 HK.out; have c3 := cell3 HK.out; have hlt := HK.out.lt; clear hb))
  have HX := Lib.hid (isb_vs wn #[.int .u8 1, .int .u8 120, .int .u8 0, .int .u8 2, .int .u8 20, .int .u8 1] 6 (by rfl) (by rfl))
  have HB := Lib.hid (HB.out.alloc HB.out.size (.cells #[.int .u8 1, .int .u8 120, .int .u8 0, .int .u8 2, .int .u8 20, .int .u8 1] 5))
  clear c0 c1 c2 c3 hlt
  go_wp2_with (first
    | (go_at_call 33; refine (of21_spec _ _ _ _ _).mono ?_; rintro e wn ⟨rfl, hb⟩; have HB := Lib.hid (pure_below HB.out hb); have HX := Lib.hid (HX.out.pure hb); clear hb)
    | (go_at_call 34; refine (leads_yes _ 6 6 _ _ _ _ _ _ _ _ HX.out (by decide) (by decide) (by decide) (by decide)).mono ?_; rintro e wn ⟨rfl, hb⟩; have HB := Lib.hid (pure_below HB.out hb); have HX := Lib.hid (HX.out.pure hb); clear hb))
  have HB := Lib.hid (HB.out.alloc HB.out.size (.cells #[.int .u8 1, .int .u8 2] 5))
  clear HX HK
  go_wp2_with fail
  go_at_call 33
  refine (of21_spec 0 1 19 1 _).mono ?_
  rintro e wn ⟨rfl, hb⟩
  have HB := Lib.hid (pure_below HB.out hb)
  clear hb
  go_wp2_with fail
  go_at_call 15
  refine (kind_spec 0 1 19 1 _).mono ?_
  rw [show kindT 19 = 15 by decide]
  rintro e wn ⟨rfl, hb⟩
  have HB := Lib.hid (pure_below HB.out hb)
  clear hb
  go_wp2_with fail
  go_at_call 33
  refine (of21_spec 0 1 3 1 _).mono ?_
  rintro e wn ⟨rfl, hb⟩
  have HB := Lib.hid (pure_below HB.out hb)
  clear hb
  go_wp2_with fail
  go_at_call 15
  refine (kind_spec 0 1 3 1 _).mono ?_
  rw [show kindT 3 = 0 by decide]
  rintro e wn ⟨rfl, hb⟩
  have HB := Lib.hid (pure_below HB.out hb)
  clear hb
  go_wp2_with fail
  go_at_call 35
  refine (inside_spec _ 2 2 1 1 _ (by decide)).mono ?_
  rw [show inB 2 1 1 = true by decide]
  rintro e w' ⟨rfl, rfl⟩
  go_wp2_with fail
  go_at_call 35
  refine (inside_spec _ 2 2 2 0 _ (by decide)).mono ?_
  rw [show inB 2 2 0 = true by decide]
  rintro e w' ⟨rfl, rfl⟩
  go_wp2_with fail
  go_at_call 35
  refine (inside_spec _ 2 2 1 2 _ (by decide)).mono ?_
  rw [show inB 2 1 2 = false by decide]
  rintro e w' ⟨rfl, rfl⟩
  go_wp2
  go_ret
  exact ⟨rfl, HB.out⟩
end Go.Proofs.YtfoifdoaleaekaaGreat

namespace Go.Acc
open Go.RowKit
section
variable {P : Program} {mt kt et : TypeId}
/-- Storing under a new integer key into the map that was made last. -/
theorem run_ins (hu : P.underlying mt = some (.map kt et)) (hk : P.underlying kt = some (.int .i64)) (W : World) (es : Array MapEntry) (c g : Nat) (x : Int) (v : Value) (hg : g = W.heap.size)
    (hn : Instr.findNow (.int .i64) (.int .i64 x) es.toList 0 = some none) :
    (Instr.mapUpdate mt (.map (some g)) (.int .i64 x) v).run P (W.alloc (.map es c)) = .ok () (W.alloc (.map (es.push { key := .int .i64 x, val := v, born := c }) (c + 1))) := by
  subst hg
  have hb : (W.alloc (.map es c)).heap[W.heap.size]? = some (.map es c) := heap_alloc_new W _
  have e : ∀ o o' : Obj, (W.heap.push o).setIfInBounds W.heap.size o' = W.heap.push o' := by
    intro o o'
    apply Array.ext_getElem?
    intro i
    rw [Array.getElem?_setIfInBounds, Array.getElem?_push, Array.getElem?_push]
    by_cases h : W.heap.size = i
    · subst h; simp
    · rw [if_neg h, if_neg (fun e => h e.symm)]; rw [if_neg (fun e => h e.symm)]
  have h1 : (Instr.checkKey false 10000 kt (.int .i64 x)).run P (W.alloc (.map es c)) = .ok () (W.alloc (.map es c)) := MapKept.run_checkKey (n := 9999) (k := .int .i64 x) hk rfl false
  have h2 : (Instr.findKey kt (.int .i64 x) es.toList).run P (W.alloc (.map es c)) = .ok none (W.alloc (.map es c)) := MapKept.run_findKey hk hn
  have h3 := MapKept.run_setObj_map (P := P) (.map (es.push { key := .int .i64 x, val := v, born := c }) (c + 1)) hb
  simp only [Instr.mapUpdate, Sem.run_bind, run_underlying hu, Result.andThen_ok, MapKept.run_getObj_map hb, h1, h2, h3]
  simp only [World.alloc, e]
/-- Looking up an integer key. -/
theorem run_look (hu : P.underlying mt = some (.map kt et)) (hk : P.underlying kt = some (.int .i64)) (z : Value) (hz : ∀ W, (zeroValue et).run P W = .ok z W) (W : World) (es : Array MapEntry) (c g : Nat) (x : Int) (b : Bool) (r : Option (Nat × Value))
    (hb : W.heap[g]? = some (.map es c)) (hn : Instr.findNow (.int .i64) (.int .i64 x) es.toList 0 = some r) :
    (Instr.lookup mt (.map (some g)) (.int .i64 x) b).run P W = .ok (if b then .tuple #[(r.map (·.2)).getD z, .bool r.isSome] else (r.map (·.2)).getD z) W := by
  have h1 : (Instr.checkKey es.isEmpty 10000 kt (.int .i64 x)).run P W = .ok () W := MapKept.run_checkKey (n := 9999) (k := .int .i64 x) hk rfl _
  have h2 : (Instr.findKey kt (.int .i64 x) es.toList).run P W = .ok r W := MapKept.run_findKey hk hn
  cases r with
  | none =>
    simp only [Instr.lookup, Sem.run_bind, run_underlying hu, Result.andThen_ok, MapKept.run_getObj_map hb, h1, h2, hz, Sem.run_pure]
    rfl
  | some p =>
    obtain ⟨i, u⟩ := p
    simp only [Instr.lookup, Sem.run_bind, run_underlying hu, Result.andThen_ok, MapKept.run_getObj_map hb, h1, h2, Sem.run_pure]
    rfl
end
end Go.Acc
namespace Go.Proofs.YtfoifdoaleaekaaGreat
open Go.RowKit Go.Acc
end Go.Proofs.YtfoifdoaleaekaaGreat

namespace Go.Proofs.YtfoifdoaleaekaaGreat
open Go.RowKit Go.Acc
def pkEs : Array MapEntry := #[⟨.int .i64 1, .int .i64 0, 0⟩, ⟨.int .i64 2, .int .i64 1, 1⟩, ⟨.int .i64 4, .int .i64 2, 2⟩, ⟨.int .i64 8, .int .i64 3, 3⟩]
theorem pk_find {y : Nat} (h : isW (y : Int) = true) : ∃ i, Instr.findNow (.int .i64) (.int .i64 (y : Int)) pkEs.toList 0 = some (some (i, .int .i64 (bCode y : Int))) := by
  rcases w_cases h with rfl | rfl | rfl | rfl <;> exact ⟨_, rfl⟩
set_option maxRecDepth 100000 in
set_option maxHeartbeats 1000000 in
theorem pack_spec (t y : Nat) (w : World) (ht : legalT (t : Int) = true) (hy : isW (y : Int) = true) :
    Calls Tryz.prog 132 #[.int .i64 (t : Int), .int .i64 (y : Int)] w fun e w' => e = .returned (.tuple #[.int .u8 ((UInt8.ofNat (4 * t + bCode y)).toNat : Int), .int .i64 0]) ∧ Below w.heap.size w w' := by
  have h0 := run_makeMap (P := Tryz.prog) 250
  have h1 : ∀ (W : World) (es : Array MapEntry) (c : Nat) (x : Int) (v : Value), Instr.findNow (.int .i64) (.int .i64 x) es.toList 0 = some none → (Instr.mapUpdate 250 (.map (some W.heap.size)) (.int .i64 x) v).run Tryz.prog (W.alloc (.map es c)) = .ok () (W.alloc (.map (es.push { key := .int .i64 x, val := v, born := c }) (c + 1))) :=
    fun W es c x v h => run_ins Tryz.underlying250 Tryz.underlying3 W es c _ x v rfl h
  have i0 : ∀ W : World, (Instr.mapUpdate 250 (.map (some W.heap.size)) (.int .i64 1) (.int .i64 0)).run Tryz.prog (W.alloc (.map #[] 0)) = .ok () (W.alloc (.map #[⟨.int .i64 1, .int .i64 0, 0⟩] 1)) := fun W => h1 W #[] 0 1 _ rfl
  have i1 : ∀ W : World, (Instr.mapUpdate 250 (.map (some W.heap.size)) (.int .i64 2) (.int .i64 1)).run Tryz.prog (W.alloc (.map #[⟨.int .i64 1, .int .i64 0, 0⟩] 1)) = .ok () (W.alloc (.map #[⟨.int .i64 1, .int .i64 0, 0⟩, ⟨.int .i64 2, .int .i64 1, 1⟩] 2)) := fun W => h1 W _ 1 2 _ rfl
  have i2 : ∀ W : World, (Instr.mapUpdate 250 (.map (some W.heap.size)) (.int .i64 4) (.int .i64 2)).run Tryz.prog (W.alloc (.map #[⟨.int .i64 1, .int .i64 0, 0⟩, ⟨.int .i64 2, .int .i64 1, 1⟩] 2)) = .ok () (W.alloc (.map #[⟨.int .i64 1, .int .i64 0, 0⟩, ⟨.int .i64 2, .int .i64 1, 1⟩, ⟨.int .i64 4, .int .i64 2, 2⟩] 3)) := fun W => h1 W _ 2 4 _ rfl
  have i3 : ∀ W : World, (Instr.mapUpdate 250 (.map (some W.heap.size)) (.int .i64 8) (.int .i64 3)).run Tryz.prog (W.alloc (.map #[⟨.int .i64 1, .int .i64 0, 0⟩, ⟨.int .i64 2, .int .i64 1, 1⟩, ⟨.int .i64 4, .int .i64 2, 2⟩] 3)) = .ok () (W.alloc (.map pkEs 4)) := fun W => h1 W _ 3 8 _ rfl
  obtain ⟨i, hi⟩ := pk_find hy
  have i4 : ∀ W : World, (Instr.lookup 250 (.map (some W.heap.size)) (.int .i64 (y : Int)) true).run Tryz.prog (W.alloc (.map pkEs 4)) = .ok (.tuple #[.int .i64 (bCode y : Int), .bool true]) (W.alloc (.map pkEs 4)) := fun W => run_look Tryz.underlying250 Tryz.underlying3 (.int .i64 0) (fun W => Tryz.zeroValue3 W) (W.alloc (.map pkEs 4)) pkEs 4 W.heap.size y true _ (heap_alloc_new W _) hi
  have HT := Lib.hid ht
  have ht36 : t ≤ 36 := by have := isT_iff.1 (legal_isT ht); omega
  obtain ⟨c, hc⟩ : ∃ c, bCode y = c := ⟨_, rfl⟩
  have hc3 : c ≤ 3 := by rw [← hc]; unfold bCode; (repeat' split) <;> omega
  rw [hc] at i4 ⊢
  have HR := Lib.hid (show (4 * (t : Int) + c) = ((UInt8.ofNat (4 * t + c)).toNat : Int) by
    rw [UInt8.toNat_ofNat']
    show (4 * (t : Int) + c) = (((4 * t + c) % 256 : Nat) : Int)
    omega)
  have e1 : IntKind.i64.wrap (4 * (t : Int)) = 4 * (t : Int) := by rw [IntKind.wrap_i64]; omega
  have e2 : IntKind.i64.wrap (4 * (t : Int) + c) = 4 * (t : Int) + c := by rw [IntKind.wrap_i64]; omega
  clear h1 hi hy ht hc
  go_enter Tryz.func132, Tryz.ntmps132
  go_wp2_with fail
  go_at_call 44
  refine (legal_spec (t : Int) _).mono ?_
  rw [HT.out]
  rintro e w1 ⟨rfl, hb⟩
  have HB := Lib.hid hb
  clear hb
  go_wp2_with fail
  go_ret2
  exact ⟨ret_t1 HR.out, HB.out.alloc HB.out.size _⟩
end Go.Proofs.YtfoifdoaleaekaaGreat
