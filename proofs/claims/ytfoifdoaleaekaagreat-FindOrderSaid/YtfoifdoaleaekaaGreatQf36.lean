/-
  Package find: the keys of a map.
-/
import Derived.Test.YtfoifdoaleaekaaGreatQf35
namespace Go.Proofs.YtfoifdoaleaekaaGreat
open Go.RowKit Go.Acc
def kyU (l : List UInt8) (p q t v : Int) : Nat := loadU l ((lsFrom l p q t v : Int) + v) v
def kyE (l : List UInt8) (p q t v : Int) : Int :=
  if mayE l.length p q t v ≠ 0 then mayE l.length p q t v else if t ≠ 9 then 60 else if lsE l p q t v ≠ 0 then lsE l p q t v else if isW (kyU l p q t v : Int) = false then 212 else 0
def kyP (l : List UInt8) (p q t v : Int) : Int := if kyE l p q t v = 0 then lsFrom l p q t v else 0
def kyQ (l : List UInt8) (p q t v : Int) : Int := if kyE l p q t v = 0 then v else 0
def kyT (l : List UInt8) (p q t v : Int) : Int := if kyE l p q t v = 0 then 14 else 0
def kyV (l : List UInt8) (p q t v : Int) : Int := if kyE l p q t v = 0 then kyU l p q t v else 0
def KyW (w : World) (l : List UInt8) (p q t v : Int) (e : Ending) (w' : World) : Prop :=
  e = .returned (.tuple #[.agg #[.int .i64 (kyP l p q t v), .int .i64 (kyQ l p q t v), .int .i64 (kyT l p q t v), .int .i64 (kyV l p q t v)], .int .i64 (kyE l p q t v)]) ∧ Below w.heap.size w w'
theorem kyw_no {w w' : World} {l : List UInt8} {p q t v er : Int} (h : kyE l p q t v = er) (hne : er ≠ 0) (hb : Below w.heap.size w w') : KyW w l p q t v (.returned (.tuple #[.agg #[.int .i64 0, .int .i64 0, .int .i64 0, .int .i64 0], .int .i64 er])) w' := by
  unfold KyW kyP kyQ kyT kyV
  rw [h, if_neg hne, if_neg hne, if_neg hne, if_neg hne]
  exact ⟨rfl, hb⟩
theorem kyw_yes {w w' : World} {l : List UInt8} {p q t v a b g : Int} (h : kyE l p q t v = 0) (h1 : (lsFrom l p q t v : Int) = a) (h2 : v = b) (h3 : (kyU l p q t v : Int) = g) (hb : Below w.heap.size w w') : KyW w l p q t v (.returned (.tuple #[.agg #[.int .i64 a, .int .i64 b, .int .i64 14, .int .i64 g], .int .i64 0])) w' := by
  unfold KyW kyP kyQ kyT kyV
  rw [h, if_pos rfl, if_pos rfl, if_pos rfl, if_pos rfl, h1, h3, ← h2]
  exact ⟨rfl, hb⟩
theorem ky_cases (l : List UInt8) (p q t v : Int) : (mayE l.length p q t v ≠ 0 ∧ kyE l p q t v = mayE l.length p q t v) ∨ (mayE l.length p q t v = 0 ∧ ((t ≠ 9 ∧ kyE l p q t v = 60) ∨ (t = 9 ∧
    ((lsE l p q t v ≠ 0 ∧ kyE l p q t v = lsE l p q t v) ∨ (lsE l p q t v = 0 ∧ ((isW (kyU l p q t v : Int) = false ∧ kyE l p q t v = 212) ∨ (isW (kyU l p q t v : Int) = true ∧ kyE l p q t v = 0))))))) := by
  unfold kyE
  by_cases h1 : mayE l.length p q t v = 0
  · refine .inr ⟨h1, ?_⟩
    rw [if_neg (by simpa using h1)]
    by_cases h2 : t = 9
    · refine .inr ⟨h2, ?_⟩
      rw [if_neg (by simpa using h2)]
      by_cases h3 : lsE l p q t v = 0
      · refine .inr ⟨h3, ?_⟩
        rw [if_neg (by simpa using h3)]
        cases h4 : isW (kyU l p q t v : Int) with
        | false => exact .inl ⟨rfl, if_pos rfl⟩
        | true => exact .inr ⟨rfl, if_neg (by decide)⟩
      · rw [if_pos h3]; exact .inl ⟨h3, rfl⟩
    · rw [if_pos h2]; exact .inl ⟨h2, rfl⟩
  · rw [if_pos h1]; exact .inl ⟨h1, rfl⟩
theorem loadU64 (l : List UInt8) (a x : Int) : (loadU l a x : Int) < 18446744073709551616 := by
  unfold loadU
  split
  · rename_i h
    have h1 := isW_iff.1 h.1
    have hl := leVal_lt ((l.drop a.toNat).take x.toNat)
    have h8 : ((l.drop a.toNat).take x.toNat).length ≤ 8 := by
      have := List.length_take_le x.toNat (l.drop a.toNat)
      omega
    have := Nat.pow_le_pow_right (n := 2) (by omega) (Nat.mul_le_mul_left 8 h8)
    omega
  · omega
set_option maxRecDepth 100000 in
set_option maxHeartbeats 2000000 in
theorem fkeys_spec (A : Option Addr) (n c : Nat) (p q t v : Int) (l : List UInt8) (w : World) (h : IsB w A n l) (hc : n ≤ c) (hn : n ≤ 1099511627776) :
    Calls Tryz.prog 60 #[.slice A n c, .agg #[.int .i64 p, .int .i64 q, .int .i64 t, .int .i64 v]] w (KyW w l p q t v) := by
  have hlen := h.1
  subst hlen
  have HL := Lib.hid ((h.alloc (.cells #[.int .i64 p, .int .i64 q, .int .i64 t, .int .i64 v] 36)).alloc (.cells #[.int .i64 0, .int .i64 0, .int .i64 0, .int .i64 0] 36))
  have HB := Lib.hid (((Below.refl w.heap.size w).alloc (Nat.le_refl _) (.cells #[.int .i64 p, .int .i64 q, .int .i64 t, .int .i64 v] 36)).alloc (by simp) (.cells #[.int .i64 0, .int .i64 0, .int .i64 0, .int .i64 0] 36))
  have HX := Lib.hid ((Blk.new w 36 #[.int .i64 p, .int .i64 q, .int .i64 t, .int .i64 v]).alloc (.cells #[.int .i64 0, .int .i64 0, .int .i64 0, .int .i64 0] 36))
  have HR := Lib.hid (Blk.new_ (w := w.alloc (.cells #[.int .i64 p, .int .i64 q, .int .i64 t, .int .i64 v] 36)) (g := w.heap.size + 1) (by simp) 36 #[.int .i64 0, .int .i64 0, .int .i64 0, .int .i64 0])
  have hcs := ky_cases l p q t v
  clear h
  go_enter Tryz.func60, Tryz.ntmps60
  go_wp2_with fail
  go_at_call 14
  refine (may_spec A _ c p q t v _ (by omega)).mono ?_
  generalize (w.alloc (.cells #[.int .i64 p, .int .i64 q, .int .i64 t, .int .i64 v] 36)).alloc (.cells #[.int .i64 0, .int .i64 0, .int .i64 0, .int .i64 0] 36) = wB at HL HB HX HR ⊢
  have x0 := cell0 HX.out; have x1 := cell1 HX.out; have x2 := cell2 HX.out; have x3 := cell3 HX.out
  rintro e w1 ⟨rfl, hb⟩
  clear x0 x1 x2 x3; replace HB := Lib.hid (pure_below HB.out hb); replace HX := Lib.hid (HX.out.pure hb); replace HR := Lib.hid (HR.out.pure hb); replace HL := Lib.hid (HL.out.pure hb); clear hb; have x0 := cell0 HX.out; have x1 := cell1 HX.out; have x2 := cell2 HX.out; have x3 := cell3 HX.out
  rcases hcs with ⟨hm, he⟩ | ⟨hm, hcs⟩
  · have HE := Lib.hid he
    have HN := Lib.hid hm
    have hne : (mayE l.length p q t v != 0) = true := by simpa using hm
    clear he hm
    have r0 : _ = some (Value.int .i64 0) := HR.out.cell 0; have r1 : _ = some (Value.int .i64 0) := HR.out.cell 1; have r2 : _ = some (Value.int .i64 0) := HR.out.cell 2; have r3 : _ = some (Value.int .i64 0) := HR.out.cell 3; have f0 := HR.out.frozen 0; have f1 := HR.out.frozen 1; have f2 := HR.out.frozen 2; have f3 := HR.out.frozen 3
    go_wp2
    refine bodyPost_ret (v := .tuple #[.agg #[.int .i64 0, .int .i64 0, .int .i64 0, .int .i64 0], .int .i64 (mayE l.length p q t v)]) (by simp [results, Tryz.results60, go_sem, r0, r1, r2, r3]) rfl ?_
    exact kyw_no HE.out HN.out (below_set4 _ HB.out (Nat.le_succ _) _ _ _ _)
  · rw [hm]
    clear hm
    rcases hcs with ⟨h9, he⟩ | ⟨rfl, hcs⟩
    · have HE := Lib.hid he
      have HN := Lib.hid (show (60 : Int) ≠ 0 by decide)
      have hne : (t != 9) = true := by simpa using h9
      clear he h9
      have r0 : _ = some (Value.int .i64 0) := HR.out.cell 0; have r1 : _ = some (Value.int .i64 0) := HR.out.cell 1; have r2 : _ = some (Value.int .i64 0) := HR.out.cell 2; have r3 : _ = some (Value.int .i64 0) := HR.out.cell 3; have f0 := HR.out.frozen 0; have f1 := HR.out.frozen 1; have f2 := HR.out.frozen 2; have f3 := HR.out.frozen 3
      go_wp2
      refine bodyPost_ret (v := .tuple #[.agg #[.int .i64 0, .int .i64 0, .int .i64 0, .int .i64 0], .int .i64 60]) (by simp [results, Tryz.results60, go_sem, r0, r1, r2, r3]) rfl ?_
      exact kyw_no HE.out HN.out (below_set4 _ HB.out (Nat.le_succ _) _ _ _ _)
    · have HCS := Lib.hid hcs
      clear hcs
      go_wp2_with fail
      go_at_call 88
      refine (lspan_spec A _ c p q 9 v l _ HL.out hc hn).mono ?_
      rintro e w2 ⟨rfl, hb⟩
      clear x0 x1 x2 x3; replace HB := Lib.hid (pure_below HB.out hb); replace HX := Lib.hid (HX.out.pure hb); replace HR := Lib.hid (HR.out.pure hb); replace HL := Lib.hid (HL.out.pure hb); clear hb; have x0 := cell0 HX.out; have x1 := cell1 HX.out; have x2 := cell2 HX.out; have x3 := cell3 HX.out
      rcases HCS.out with ⟨hs, he⟩ | ⟨hs, hcs⟩
      · have HE := Lib.hid he
        have HN := Lib.hid hs
        have hne : (lsE l p q 9 v != 0) = true := by simpa using hs
        clear he hs HCS
        have r0 : _ = some (Value.int .i64 0) := HR.out.cell 0; have r1 : _ = some (Value.int .i64 0) := HR.out.cell 1; have r2 : _ = some (Value.int .i64 0) := HR.out.cell 2; have r3 : _ = some (Value.int .i64 0) := HR.out.cell 3; have f0 := HR.out.frozen 0; have f1 := HR.out.frozen 1; have f2 := HR.out.frozen 2; have f3 := HR.out.frozen 3
        go_wp2
        refine bodyPost_ret (v := .tuple #[.agg #[.int .i64 0, .int .i64 0, .int .i64 0, .int .i64 0], .int .i64 (lsE l p q 9 v)]) (by simp [results, Tryz.results60, go_sem, r0, r1, r2, r3]) rfl ?_
        exact kyw_no HE.out HN.out (below_set4 _ HB.out (Nat.le_succ _) _ _ _ _)
      · obtain ⟨_, _, hW, _⟩ := ls_ok hs
        have hv := isW_iff.1 hW
        rw [hs]
        obtain ⟨V, rfl⟩ : ∃ V : Nat, v = V := ⟨v.toNat, by omega⟩
        obtain ⟨e1, e2, e3, _⟩ := ls_within hs
        obtain ⟨nf, hnf⟩ : ∃ x, lsFrom l p q 9 V = x := ⟨_, rfl⟩
        obtain ⟨U, hU⟩ : ∃ U, kyU l p q 9 V = U := ⟨_, rfl⟩
        have hnf40 : nf ≤ 1099511627776 := by omega
        have HU := Lib.hid (show loadU l ((nf : Int) + (V : Int)) V = U by rw [← hU, ← hnf]; rfl)
        have HKU := Lib.hid hU
        have HNF := Lib.hid hnf
        have hV8 : V ≤ 8 := by omega
        rw [hU] at hcs
        rw [hnf]
        have HC2 := Lib.hid hcs
        clear hcs hU hnf hs e1 e2 e3 hv hW HCS
        rcases HC2.out with ⟨hw, he⟩ | ⟨hw, he⟩
        · have HE := Lib.hid he
          have HN := Lib.hid (show (212 : Int) ≠ 0 by decide)
          have hU64 : (U : Int) < 18446744073709551616 := by rw [← HU.out]; exact loadU64 _ _ _
          have HW := Lib.hid hw
          clear he hw HC2
          go_wp2_with fail
          go_at_call 47
          refine (load_spec2 A _ c ((nf : Int) + V) V l _ (loadE l.length ((nf : Int) + V) V) U HL.out hc (by omega) rfl HU.out).mono ?_
          rintro e w3 ⟨rfl, hb⟩
          clear x0 x1 x2 x3; replace HB := Lib.hid (pure_below HB.out hb); replace HX := Lib.hid (HX.out.pure hb); replace HR := Lib.hid (HR.out.pure hb); replace HL := Lib.hid (HL.out.pure hb); clear hb; have x0 := cell0 HX.out; have x1 := cell1 HX.out; have x2 := cell2 HX.out; have x3 := cell3 HX.out
          go_wp2_with fail
          go_at_call 84
          refine (code_spec ((U : Int) % 4294967296) _).mono ?_
          cases hx : isW ((U : Int) % 4294967296) with
          | false =>
            rw [codeE_no hx]
            rintro e w4 ⟨rfl, rfl⟩
            clear hx
            have r0 : _ = some (Value.int .i64 0) := HR.out.cell 0; have r1 : _ = some (Value.int .i64 0) := HR.out.cell 1; have r2 : _ = some (Value.int .i64 0) := HR.out.cell 2; have r3 : _ = some (Value.int .i64 0) := HR.out.cell 3; have f0 := HR.out.frozen 0; have f1 := HR.out.frozen 1; have f2 := HR.out.frozen 2; have f3 := HR.out.frozen 3
            go_wp2
            refine bodyPost_ret (v := .tuple #[.agg #[.int .i64 0, .int .i64 0, .int .i64 0, .int .i64 0], .int .i64 212]) (by simp [results, Tryz.results60, go_sem, r0, r1, r2, r3]) rfl ?_
            exact kyw_no HE.out HN.out (below_set4 _ HB.out (Nat.le_succ _) _ _ _ _)
          | true =>
            rw [codeE_yes hx]
            rintro e w4 ⟨rfl, rfl⟩
            have hq : ¬ (U / 4294967296 = 0) := by
              intro h0
              have e : (U : Int) % 4294967296 = U := by omega
              rw [e, HW.out] at hx
              cases hx
            have hne : (((U : Int) / 4294967296) != 0) = true := by simpa using (show ¬ ((U : Int) / 4294967296 = 0) by omega)
            clear hx hq
            have r0 : _ = some (Value.int .i64 0) := HR.out.cell 0; have r1 : _ = some (Value.int .i64 0) := HR.out.cell 1; have r2 : _ = some (Value.int .i64 0) := HR.out.cell 2; have r3 : _ = some (Value.int .i64 0) := HR.out.cell 3; have f0 := HR.out.frozen 0; have f1 := HR.out.frozen 1; have f2 := HR.out.frozen 2; have f3 := HR.out.frozen 3
            go_wp2
            refine bodyPost_ret (v := .tuple #[.agg #[.int .i64 0, .int .i64 0, .int .i64 0, .int .i64 0], .int .i64 212]) (by simp [results, Tryz.results60, go_sem, r0, r1, r2, r3]) rfl ?_
            exact kyw_no HE.out HN.out (below_set4 _ HB.out (Nat.le_succ _) _ _ _ _)
        · have hw4 := isW_iff.1 hw
          have HE := Lib.hid he
          clear he hw HC2
          have hU4 : U = 1 ∨ U = 2 ∨ U = 4 ∨ U = 8 := by omega
          clear hw4
          rcases hU4 with rfl | rfl | rfl | rfl
          · go_wp2_with fail
            go_at_call 47
            refine (load_spec2 A _ c ((nf : Int) + V) V l _ (loadE l.length ((nf : Int) + V) V) 1 HL.out hc (by omega) rfl HU.out).mono ?_
            rintro e w3 ⟨rfl, hb⟩
            clear x0 x1 x2 x3; replace HB := Lib.hid (pure_below HB.out hb); replace HX := Lib.hid (HX.out.pure hb); replace HR := Lib.hid (HR.out.pure hb); replace HL := Lib.hid (HL.out.pure hb); clear hb; have x0 := cell0 HX.out; have x1 := cell1 HX.out; have x2 := cell2 HX.out; have x3 := cell3 HX.out
            go_wp2_with fail
            go_at_call 84
            refine (code_spec 1 _).mono ?_
            rw [show codeE 1 = 0 by decide]
            rintro e w4 ⟨rfl, rfl⟩
            have r0 : _ = some (Value.int .i64 0) := HR.out.cell 0; have r1 : _ = some (Value.int .i64 0) := HR.out.cell 1; have r2 : _ = some (Value.int .i64 0) := HR.out.cell 2; have r3 : _ = some (Value.int .i64 0) := HR.out.cell 3; have f0 := HR.out.frozen 0; have f1 := HR.out.frozen 1; have f2 := HR.out.frozen 2; have f3 := HR.out.frozen 3
            go_wp2
            refine bodyPost_ret (v := .tuple #[.agg #[.int .i64 nf, .int .i64 V, .int .i64 14, .int .i64 1], .int .i64 0]) (by simp [results, Tryz.results60, go_sem, r0, r1, r2, r3]) rfl ?_
            exact kyw_yes HE.out (by rw [HNF.out]) rfl (by rw [HKU.out]; rfl) (below_set4 _ HB.out (Nat.le_succ _) _ _ _ _)
          · go_wp2_with fail
            go_at_call 47
            refine (load_spec2 A _ c ((nf : Int) + V) V l _ (loadE l.length ((nf : Int) + V) V) 2 HL.out hc (by omega) rfl HU.out).mono ?_
            rintro e w3 ⟨rfl, hb⟩
            clear x0 x1 x2 x3; replace HB := Lib.hid (pure_below HB.out hb); replace HX := Lib.hid (HX.out.pure hb); replace HR := Lib.hid (HR.out.pure hb); replace HL := Lib.hid (HL.out.pure hb); clear hb; have x0 := cell0 HX.out; have x1 := cell1 HX.out; have x2 := cell2 HX.out; have x3 := cell3 HX.out
            go_wp2_with fail
            go_at_call 84
            refine (code_spec 2 _).mono ?_
            rw [show codeE 2 = 0 by decide]
            rintro e w4 ⟨rfl, rfl⟩
            have r0 : _ = some (Value.int .i64 0) := HR.out.cell 0; have r1 : _ = some (Value.int .i64 0) := HR.out.cell 1; have r2 : _ = some (Value.int .i64 0) := HR.out.cell 2; have r3 : _ = some (Value.int .i64 0) := HR.out.cell 3; have f0 := HR.out.frozen 0; have f1 := HR.out.frozen 1; have f2 := HR.out.frozen 2; have f3 := HR.out.frozen 3
            go_wp2
            refine bodyPost_ret (v := .tuple #[.agg #[.int .i64 nf, .int .i64 V, .int .i64 14, .int .i64 2], .int .i64 0]) (by simp [results, Tryz.results60, go_sem, r0, r1, r2, r3]) rfl ?_
            exact kyw_yes HE.out (by rw [HNF.out]) rfl (by rw [HKU.out]; rfl) (below_set4 _ HB.out (Nat.le_succ _) _ _ _ _)
          · go_wp2_with fail
            go_at_call 47
            refine (load_spec2 A _ c ((nf : Int) + V) V l _ (loadE l.length ((nf : Int) + V) V) 4 HL.out hc (by omega) rfl HU.out).mono ?_
            rintro e w3 ⟨rfl, hb⟩
            clear x0 x1 x2 x3; replace HB := Lib.hid (pure_below HB.out hb); replace HX := Lib.hid (HX.out.pure hb); replace HR := Lib.hid (HR.out.pure hb); replace HL := Lib.hid (HL.out.pure hb); clear hb; have x0 := cell0 HX.out; have x1 := cell1 HX.out; have x2 := cell2 HX.out; have x3 := cell3 HX.out
            go_wp2_with fail
            go_at_call 84
            refine (code_spec 4 _).mono ?_
            rw [show codeE 4 = 0 by decide]
            rintro e w4 ⟨rfl, rfl⟩
            have r0 : _ = some (Value.int .i64 0) := HR.out.cell 0; have r1 : _ = some (Value.int .i64 0) := HR.out.cell 1; have r2 : _ = some (Value.int .i64 0) := HR.out.cell 2; have r3 : _ = some (Value.int .i64 0) := HR.out.cell 3; have f0 := HR.out.frozen 0; have f1 := HR.out.frozen 1; have f2 := HR.out.frozen 2; have f3 := HR.out.frozen 3
            go_wp2
            refine bodyPost_ret (v := .tuple #[.agg #[.int .i64 nf, .int .i64 V, .int .i64 14, .int .i64 4], .int .i64 0]) (by simp [results, Tryz.results60, go_sem, r0, r1, r2, r3]) rfl ?_
            exact kyw_yes HE.out (by rw [HNF.out]) rfl (by rw [HKU.out]; rfl) (below_set4 _ HB.out (Nat.le_succ _) _ _ _ _)
          · go_wp2_with fail
            go_at_call 47
            refine (load_spec2 A _ c ((nf : Int) + V) V l _ (loadE l.length ((nf : Int) + V) V) 8 HL.out hc (by omega) rfl HU.out).mono ?_
            rintro e w3 ⟨rfl, hb⟩
            clear x0 x1 x2 x3; replace HB := Lib.hid (pure_below HB.out hb); replace HX := Lib.hid (HX.out.pure hb); replace HR := Lib.hid (HR.out.pure hb); replace HL := Lib.hid (HL.out.pure hb); clear hb; have x0 := cell0 HX.out; have x1 := cell1 HX.out; have x2 := cell2 HX.out; have x3 := cell3 HX.out
            go_wp2_with fail
            go_at_call 84
            refine (code_spec 8 _).mono ?_
            rw [show codeE 8 = 0 by decide]
            rintro e w4 ⟨rfl, rfl⟩
            have r0 : _ = some (Value.int .i64 0) := HR.out.cell 0; have r1 : _ = some (Value.int .i64 0) := HR.out.cell 1; have r2 : _ = some (Value.int .i64 0) := HR.out.cell 2; have r3 : _ = some (Value.int .i64 0) := HR.out.cell 3; have f0 := HR.out.frozen 0; have f1 := HR.out.frozen 1; have f2 := HR.out.frozen 2; have f3 := HR.out.frozen 3
            go_wp2
            refine bodyPost_ret (v := .tuple #[.agg #[.int .i64 nf, .int .i64 V, .int .i64 14, .int .i64 8], .int .i64 0]) (by simp [results, Tryz.results60, go_sem, r0, r1, r2, r3]) rfl ?_
            exact kyw_yes HE.out (by rw [HNF.out]) rfl (by rw [HKU.out]; rfl) (below_set4 _ HB.out (Nat.le_succ _) _ _ _ _)
end Go.Proofs.YtfoifdoaleaekaaGreat

/-
  Package find: a map whose keys have been located; the key at an index.
-/
namespace Go.Proofs.YtfoifdoaleaekaaGreat
open Go.RowKit Go.Acc
def opE (l : List UInt8) (p q t v : Int) : Int :=
  if kyE l p q t v ≠ 0 then kyE l p q t v else if lsE l (kyP l p q t v) (kyQ l p q t v) (kyT l p q t v) (kyV l p q t v) ≠ 0 then lsE l (kyP l p q t v) (kyQ l p q t v) (kyT l p q t v) (kyV l p q t v) else if lsLen l p q t v ≠ lsLen l (kyP l p q t v) (kyQ l p q t v) (kyT l p q t v) (kyV l p q t v) then 214 else 0
theorem op_cases (l : List UInt8) (p q t v : Int) : (kyE l p q t v ≠ 0 ∧ opE l p q t v = kyE l p q t v) ∨ (kyE l p q t v = 0 ∧ ((lsE l (kyP l p q t v) (kyQ l p q t v) (kyT l p q t v) (kyV l p q t v) ≠ 0 ∧ opE l p q t v = lsE l (kyP l p q t v) (kyQ l p q t v) (kyT l p q t v) (kyV l p q t v)) ∨ (lsE l (kyP l p q t v) (kyQ l p q t v) (kyT l p q t v) (kyV l p q t v) = 0 ∧
    ((lsLen l p q t v ≠ lsLen l (kyP l p q t v) (kyQ l p q t v) (kyT l p q t v) (kyV l p q t v) ∧ opE l p q t v = 214) ∨ (lsLen l p q t v = lsLen l (kyP l p q t v) (kyQ l p q t v) (kyT l p q t v) (kyV l p q t v) ∧ opE l p q t v = 0))))) := by
  unfold opE
  by_cases h1 : kyE l p q t v = 0
  · refine .inr ⟨h1, ?_⟩
    rw [if_neg (by simpa using h1)]
    by_cases h2 : lsE l (kyP l p q t v) (kyQ l p q t v) (kyT l p q t v) (kyV l p q t v) = 0
    · refine .inr ⟨h2, ?_⟩
      rw [if_neg (by simpa using h2)]
      by_cases h3 : lsLen l p q t v = lsLen l (kyP l p q t v) (kyQ l p q t v) (kyT l p q t v) (kyV l p q t v)
      · rw [if_neg (by simpa using h3)]; exact .inr ⟨h3, rfl⟩
      · rw [if_pos h3]; exact .inl ⟨h3, rfl⟩
    · rw [if_pos h2]; exact .inl ⟨h2, rfl⟩
  · rw [if_pos h1]; exact .inl ⟨h1, rfl⟩
def opV (A : Option Addr) (n c : Nat) (l : List UInt8) (p q t v : Int) : Value :=
  if opE l p q t v = 0 then .agg #[(.slice A n c), .int .i64 (kyP l p q t v), .int .i64 (kyQ l p q t v), .int .i64 (kyT l p q t v), .int .i64 (kyV l p q t v), .int .i64 (lsLen l (kyP l p q t v) (kyQ l p q t v) (kyT l p q t v) (kyV l p q t v) : Nat)] else .agg #[(.slice none 0 0), .int .i64 0, .int .i64 0, .int .i64 0, .int .i64 0, .int .i64 0]
def OpW (w : World) (A : Option Addr) (n c : Nat) (l : List UInt8) (p q t v : Int) (e : Ending) (w' : World) : Prop :=
  e = .returned (.tuple #[opV A n c l p q t v, .int .i64 (opE l p q t v)]) ∧ Below w.heap.size w w'
theorem opw_no {w w' : World} {A : Option Addr} {n c : Nat} {l : List UInt8} {p q t v er : Int} (h : opE l p q t v = er) (hne : er ≠ 0) (hb : Below w.heap.size w w') :
    OpW w A n c l p q t v (.returned (.tuple #[.agg #[(.slice none 0 0), .int .i64 0, .int .i64 0, .int .i64 0, .int .i64 0, .int .i64 0], .int .i64 er])) w' := by
  unfold OpW opV
  rw [h, if_neg hne]
  exact ⟨rfl, hb⟩
theorem opw_yes {w w' : World} {A : Option Addr} {n c : Nat} {l : List UInt8} {p q t v a b d g k : Int} (h : opE l p q t v = 0) (h1 : kyP l p q t v = a) (h2 : kyQ l p q t v = b) (h3 : kyT l p q t v = d) (h4 : kyV l p q t v = g) (h5 : (lsLen l (kyP l p q t v) (kyQ l p q t v) (kyT l p q t v) (kyV l p q t v) : Int) = k) (hb : Below w.heap.size w w') :
    OpW w A n c l p q t v (.returned (.tuple #[.agg #[(.slice A n c), .int .i64 a, .int .i64 b, .int .i64 d, .int .i64 g, .int .i64 k], .int .i64 0])) w' := by
  unfold OpW opV
  rw [h, if_pos rfl, h5, h1, h2, h3, h4]
  exact ⟨rfl, hb⟩
theorem below_set6 {B : Nat} {a w : World} (g : Nat) (h : Below B a w) (hg : B ≤ g) (v0 v1 v2 v3 v4 v5 : Value) :
    Below B a ((((((w.setCell ⟨g, 0, none⟩ v0).setCell ⟨g, 1, none⟩ v1).setCell ⟨g, 2, none⟩ v2).setCell ⟨g, 3, none⟩ v3).setCell ⟨g, 4, none⟩ v4).setCell ⟨g, 5, none⟩ v5) :=
  (((((h.setCell hg _).setCell hg _).setCell hg _).setCell hg _).setCell hg _).setCell hg _
set_option maxRecDepth 100000 in
set_option maxHeartbeats 2000000 in
theorem fopen_spec (A : Option Addr) (n c : Nat) (p q t v : Int) (l : List UInt8) (w : World) (h : IsB w A n l) (hc : n ≤ c) (hn : n ≤ 1099511627776) :
    Calls Tryz.prog 63 #[.slice A n c, .agg #[.int .i64 p, .int .i64 q, .int .i64 t, .int .i64 v]] w (OpW w A n c l p q t v) := by
  have HL := Lib.hid ((h.alloc (.cells #[.int .i64 p, .int .i64 q, .int .i64 t, .int .i64 v] 36)).alloc (.cells #[(.slice none 0 0), .int .i64 0, .int .i64 0, .int .i64 0, .int .i64 0, .int .i64 0] 110))
  have HB := Lib.hid (((Below.refl w.heap.size w).alloc (Nat.le_refl _) (.cells #[.int .i64 p, .int .i64 q, .int .i64 t, .int .i64 v] 36)).alloc (by simp) (.cells #[(.slice none 0 0), .int .i64 0, .int .i64 0, .int .i64 0, .int .i64 0, .int .i64 0] 110))
  have HX := Lib.hid ((Blk.new w 36 #[.int .i64 p, .int .i64 q, .int .i64 t, .int .i64 v]).alloc (.cells #[(.slice none 0 0), .int .i64 0, .int .i64 0, .int .i64 0, .int .i64 0, .int .i64 0] 110))
  have HR := Lib.hid (Blk.new_ (w := w.alloc (.cells #[.int .i64 p, .int .i64 q, .int .i64 t, .int .i64 v] 36)) (g := w.heap.size + 1) (by simp) 110 #[(.slice none 0 0), .int .i64 0, .int .i64 0, .int .i64 0, .int .i64 0, .int .i64 0])
  have hcs := op_cases l p q t v
  clear h
  obtain ⟨ke, hke⟩ : ∃ x, kyE l p q t v = x := ⟨_, rfl⟩
  obtain ⟨kp, hkp⟩ : ∃ x, kyP l p q t v = x := ⟨_, rfl⟩
  obtain ⟨kq, hkq⟩ : ∃ x, kyQ l p q t v = x := ⟨_, rfl⟩
  obtain ⟨kt, hkt⟩ : ∃ x, kyT l p q t v = x := ⟨_, rfl⟩
  obtain ⟨kv, hkv⟩ : ∃ x, kyV l p q t v = x := ⟨_, rfl⟩
  rw [hke, hkp, hkq, hkt, hkv] at hcs
  have HKE := Lib.hid hke
  have HKP := Lib.hid hkp
  have HKQ := Lib.hid hkq
  have HKT := Lib.hid hkt
  have HKV := Lib.hid hkv
  clear hke hkp hkq hkt hkv
  go_enter Tryz.func63, Tryz.ntmps63
  go_wp2_with fail
  go_at_call 60
  refine (fkeys_spec A n c p q t v l _ HL.out hc hn).mono ?_
  generalize (w.alloc (.cells #[.int .i64 p, .int .i64 q, .int .i64 t, .int .i64 v] 36)).alloc (.cells #[(.slice none 0 0), .int .i64 0, .int .i64 0, .int .i64 0, .int .i64 0, .int .i64 0] 110) = wB at HL HB HX HR ⊢
  have x0 := cell0 HX.out; have x1 := cell1 HX.out; have x2 := cell2 HX.out; have x3 := cell3 HX.out
  unfold KyW
  rw [HKE.out, HKP.out, HKQ.out, HKT.out, HKV.out]
  rintro e w1 ⟨rfl, hb⟩
  clear x0 x1 x2 x3; replace HB := Lib.hid (pure_below HB.out hb); replace HX := Lib.hid (HX.out.pure hb); replace HR := Lib.hid (HR.out.pure hb); replace HL := Lib.hid (HL.out.pure hb); have x0 := cell0 HX.out; have x1 := cell1 HX.out; have x2 := cell2 HX.out; have x3 := cell3 HX.out
  clear hb
  have HK := Lib.hid (Blk.new w1 36 #[.int .i64 kp, .int .i64 kq, .int .i64 kt, .int .i64 kv])
  clear x0 x1 x2 x3
  replace HL := Lib.hid (HL.out.alloc (.cells #[.int .i64 kp, .int .i64 kq, .int .i64 kt, .int .i64 kv] 36))
  replace HB := Lib.hid (HB.out.alloc HB.out.size (.cells #[.int .i64 kp, .int .i64 kq, .int .i64 kt, .int .i64 kv] 36))
  replace HX := Lib.hid (HX.out.alloc (.cells #[.int .i64 kp, .int .i64 kq, .int .i64 kt, .int .i64 kv] 36))
  replace HR := Lib.hid (HR.out.alloc (.cells #[.int .i64 kp, .int .i64 kq, .int .i64 kt, .int .i64 kv] 36))
  rcases hcs with ⟨hm, he⟩ | ⟨hm, hcs⟩
  · have HE := Lib.hid he
    have HN := Lib.hid hm
    have hne : (ke != 0) = true := by simpa using hm
    clear he hm
    have r0 : _ = some (Value.slice none 0 0) := HR.out.cell 0; have r1 : _ = some (Value.int .i64 0) := HR.out.cell 1; have r2 : _ = some (Value.int .i64 0) := HR.out.cell 2; have r3 : _ = some (Value.int .i64 0) := HR.out.cell 3; have r4 : _ = some (Value.int .i64 0) := HR.out.cell 4; have r5 : _ = some (Value.int .i64 0) := HR.out.cell 5; have f0 := HR.out.frozen 0; have f1 := HR.out.frozen 1; have f2 := HR.out.frozen 2; have f3 := HR.out.frozen 3; have f4 := HR.out.frozen 4; have f5 := HR.out.frozen 5
    go_wp2
    refine bodyPost_ret (v := .tuple #[.agg #[(.slice none 0 0), .int .i64 0, .int .i64 0, .int .i64 0, .int .i64 0, .int .i64 0], .int .i64 ke]) (by simp [results, Tryz.results63, go_sem, r0, r1, r2, r3, r4, r5]) rfl ?_
    exact opw_no HE.out HN.out (below_set6 _ HB.out (Nat.le_succ _) _ _ _ _ _ _)
  · subst hm
    have HCS := Lib.hid hcs
    clear hcs
    go_wp2_with fail
    go_at_call 54
    refine (llen_spec A n c kp kq kt kv l _ HL.out hc hn).mono ?_
    rintro e w2 ⟨rfl, hb⟩
    have x0 := cell0 HX.out; have x1 := cell1 HX.out; have x2 := cell2 HX.out; have x3 := cell3 HX.out
    clear x0 x1 x2 x3; replace HB := Lib.hid (pure_below HB.out hb); replace HX := Lib.hid (HX.out.pure hb); replace HR := Lib.hid (HR.out.pure hb); replace HL := Lib.hid (HL.out.pure hb); have x0 := cell0 HX.out; have x1 := cell1 HX.out; have x2 := cell2 HX.out; have x3 := cell3 HX.out
    replace HK := Lib.hid (HK.out.pure hb)
    clear hb
    rcases HCS.out with ⟨hm, he⟩ | ⟨hm, hcs⟩
    · have HE := Lib.hid he
      have HN := Lib.hid hm
      have hne : (lsE l kp kq kt kv != 0) = true := by simpa using hm
      clear he hm HCS
      have r0 : _ = some (Value.slice none 0 0) := HR.out.cell 0; have r1 : _ = some (Value.int .i64 0) := HR.out.cell 1; have r2 : _ = some (Value.int .i64 0) := HR.out.cell 2; have r3 : _ = some (Value.int .i64 0) := HR.out.cell 3; have r4 : _ = some (Value.int .i64 0) := HR.out.cell 4; have r5 : _ = some (Value.int .i64 0) := HR.out.cell 5; have f0 := HR.out.frozen 0; have f1 := HR.out.frozen 1; have f2 := HR.out.frozen 2; have f3 := HR.out.frozen 3; have f4 := HR.out.frozen 4; have f5 := HR.out.frozen 5
      go_wp2
      refine bodyPost_ret (v := .tuple #[.agg #[(.slice none 0 0), .int .i64 0, .int .i64 0, .int .i64 0, .int .i64 0, .int .i64 0], .int .i64 (lsE l kp kq kt kv)]) (by simp [results, Tryz.results63, go_sem, r0, r1, r2, r3, r4, r5]) rfl ?_
      exact opw_no HE.out HN.out (below_set6 _ HB.out (Nat.le_succ _) _ _ _ _ _ _)
    · rw [hm]
      clear hm HCS
      obtain ⟨nk, hnk⟩ : ∃ x, lsLen l kp kq kt kv = x := ⟨_, rfl⟩
      obtain ⟨nm, hnm⟩ : ∃ x, lsLen l p q t v = x := ⟨_, rfl⟩
      rw [hnk, hnm] at hcs
      rw [hnk]
      have HNK := Lib.hid hnk
      have HNM := Lib.hid hnm
      have HC2 := Lib.hid hcs
      clear hnk hnm hcs
      go_wp2_with fail
      go_at_call 54
      refine (llen_spec A n c p q t v l _ HL.out hc hn).mono ?_
      rw [HNM.out]
      rintro e w3 ⟨rfl, hb⟩
      clear x0 x1 x2 x3; replace HB := Lib.hid (pure_below HB.out hb); replace HX := Lib.hid (HX.out.pure hb); replace HR := Lib.hid (HR.out.pure hb); replace HL := Lib.hid (HL.out.pure hb); have x0 := cell0 HX.out; have x1 := cell1 HX.out; have x2 := cell2 HX.out; have x3 := cell3 HX.out
      replace HK := Lib.hid (HK.out.pure hb)
      clear hb
      rcases HC2.out with ⟨hm, he⟩ | ⟨rfl, he⟩
      · have HE := Lib.hid he
        have HN := Lib.hid (show (214 : Int) ≠ 0 by decide)
        have hne : ((nm : Int) != (nk : Int)) = true := by simp; omega
        clear he hm HC2
        have r0 : _ = some (Value.slice none 0 0) := HR.out.cell 0; have r1 : _ = some (Value.int .i64 0) := HR.out.cell 1; have r2 : _ = some (Value.int .i64 0) := HR.out.cell 2; have r3 : _ = some (Value.int .i64 0) := HR.out.cell 3; have r4 : _ = some (Value.int .i64 0) := HR.out.cell 4; have r5 : _ = some (Value.int .i64 0) := HR.out.cell 5; have f0 := HR.out.frozen 0; have f1 := HR.out.frozen 1; have f2 := HR.out.frozen 2; have f3 := HR.out.frozen 3; have f4 := HR.out.frozen 4; have f5 := HR.out.frozen 5
        go_wp2
        refine bodyPost_ret (v := .tuple #[.agg #[(.slice none 0 0), .int .i64 0, .int .i64 0, .int .i64 0, .int .i64 0, .int .i64 0], .int .i64 214]) (by simp [results, Tryz.results63, go_sem, r0, r1, r2, r3, r4, r5]) rfl ?_
        exact opw_no HE.out HN.out (below_set6 _ HB.out (Nat.le_succ _) _ _ _ _ _ _)
      · have HE := Lib.hid he
        clear he HC2
        have k0 := cell0 HK.out; have k1 := cell1 HK.out; have k2 := cell2 HK.out; have k3 := cell3 HK.out
        have r0 : _ = some (Value.slice none 0 0) := HR.out.cell 0; have r1 : _ = some (Value.int .i64 0) := HR.out.cell 1; have r2 : _ = some (Value.int .i64 0) := HR.out.cell 2; have r3 : _ = some (Value.int .i64 0) := HR.out.cell 3; have r4 : _ = some (Value.int .i64 0) := HR.out.cell 4; have r5 : _ = some (Value.int .i64 0) := HR.out.cell 5; have f0 := HR.out.frozen 0; have f1 := HR.out.frozen 1; have f2 := HR.out.frozen 2; have f3 := HR.out.frozen 3; have f4 := HR.out.frozen 4; have f5 := HR.out.frozen 5
        go_wp2
        refine bodyPost_ret (v := .tuple #[.agg #[(.slice A n c), .int .i64 kp, .int .i64 kq, .int .i64 kt, .int .i64 kv, .int .i64 nm], .int .i64 0]) (by simp [results, Tryz.results63, go_sem, r0, r1, r2, r3, r4, r5]) rfl ?_
        exact opw_yes HE.out HKP.out HKQ.out HKT.out HKV.out (by rw [HKP.out, HKQ.out, HKT.out, HKV.out, HNK.out]) (below_set6 _ HB.out (Nat.le_succ _) _ _ _ _ _ _)
end Go.Proofs.YtfoifdoaleaekaaGreat

/-
  Package find: the key at an index.
-/
namespace Go.Proofs.YtfoifdoaleaekaaGreat
open Go.RowKit Go.Acc
def rkE (l : List UInt8) (p q t v i : Int) : Int := if atE l p q t v i ≠ 0 then atE l p q t v i else fndE l (atP l p q t v i) (atQ l p q t v i) (atT l p q t v i) (atV l p q t v i) [4]
def rkS (l : List UInt8) (p q t v i : Int) : List UInt8 := if atE l p q t v i ≠ 0 then [] else fndL l (atP l p q t v i) (atQ l p q t v i) (atT l p q t v i) (atV l p q t v i) [4]
def kaE (l : List UInt8) (p q t v i : Int) : Int := if opE l p q t v ≠ 0 then opE l p q t v else rkE l (kyP l p q t v) (kyQ l p q t v) (kyT l p q t v) (kyV l p q t v) i
def kaS (l : List UInt8) (p q t v i : Int) : List UInt8 := if opE l p q t v ≠ 0 then [] else rkS l (kyP l p q t v) (kyQ l p q t v) (kyT l p q t v) (kyV l p q t v) i
def SkW (w : World) (s : List UInt8) (er : Int) (e : Ending) (w' : World) : Prop := e = .returned (.tuple #[.string ⟨s.toArray⟩, .int .i64 er]) ∧ Below w.heap.size w w'
theorem skw_no {w w' : World} {s : List UInt8} {er er' : Int} (h : er = er') (h2 : s = []) (hb : Below w.heap.size w w') : SkW w s er (.returned (.tuple #[.string ⟨#[]⟩, .int .i64 er'])) w' := by
  subst h h2
  exact ⟨rfl, hb⟩
theorem skw_yes {w w' : World} {s s' : List UInt8} {er er' : Int} (h : er = er') (h2 : s = s') (hb : Below w.heap.size w w') : SkW w s er (.returned (.tuple #[.string ⟨s'.toArray⟩, .int .i64 er'])) w' := by
  subst h h2
  exact ⟨rfl, hb⟩
theorem keyt_sk (A : Option Addr) (n c : Nat) (p q t v : Int) (l : List UInt8) (w : World) (h : IsB w A n l) (hc : n ≤ c) (hn : n ≤ 1099511627776) (s : List UInt8) (er : Int) (h1 : fndL l p q t v [4] = s) (h2 : fndE l p q t v [4] = er) :
    Calls Tryz.prog 97 #[.slice A n c, .agg #[.int .i64 p, .int .i64 q, .int .i64 t, .int .i64 v]] w fun e w' => e = .returned (.tuple #[.string ⟨s.toArray⟩, .int .i64 er]) ∧ Below w.heap.size w w' := by
  subst h1 h2
  exact keyt_spec A n c p q t v l w h hc hn
set_option maxRecDepth 100000 in
set_option maxHeartbeats 2000000 in
theorem ftat_spec (A : Option Addr) (n c : Nat) (p q t v k i : Int) (l : List UInt8) (w : World) (h : IsB w A n l) (hc : n ≤ c) (hn : n ≤ 1099511627776) :
    Calls Tryz.prog 66 #[.agg #[(.slice A n c), .int .i64 p, .int .i64 q, .int .i64 t, .int .i64 v, .int .i64 k], .int .i64 i] w (SkW w (rkS l p q t v i) (rkE l p q t v i)) := by
  have HL := Lib.hid (h.alloc (.cells #[(.slice A n c), .int .i64 p, .int .i64 q, .int .i64 t, .int .i64 v, .int .i64 k] 110))
  have HB := Lib.hid ((Below.refl w.heap.size w).alloc (Nat.le_refl _) (.cells #[(.slice A n c), .int .i64 p, .int .i64 q, .int .i64 t, .int .i64 v, .int .i64 k] 110))
  have HX := Lib.hid (Blk.new w 110 #[(.slice A n c), .int .i64 p, .int .i64 q, .int .i64 t, .int .i64 v, .int .i64 k])
  clear h
  obtain ⟨a, ha⟩ : ∃ x, atP l p q t v i = x := ⟨_, rfl⟩
  obtain ⟨b, hb⟩ : ∃ x, atQ l p q t v i = x := ⟨_, rfl⟩
  obtain ⟨d, hd⟩ : ∃ x, atT l p q t v i = x := ⟨_, rfl⟩
  obtain ⟨g, hg⟩ : ∃ x, atV l p q t v i = x := ⟨_, rfl⟩
  obtain ⟨er, her⟩ : ∃ x, atE l p q t v i = x := ⟨_, rfl⟩
  have H1 := Lib.hid ha
  have H2 := Lib.hid hb
  have H3 := Lib.hid hd
  have H4 := Lib.hid hg
  have H5 := Lib.hid her
  clear ha hb hd hg her
  go_enter Tryz.func66, Tryz.ntmps66
  go_wp2_with fail
  go_at_call 22
  refine (lat_is A n c p q t v i a b d g er l _ HL.out hc hn H1.out H2.out H3.out H4.out H5.out).mono ?_
  rintro e w1 ⟨rfl, hb⟩
  replace HB := Lib.hid (pure_below HB.out hb)
  replace HX := Lib.hid (HX.out.pure hb)
  replace HL := Lib.hid (HL.out.pure hb)
  clear hb
  by_cases he : er = 0
  · subst he
    have HS1 := Lib.hid (show rkS l p q t v i = fndL l a b d g [4] by unfold rkS; rw [H5.out, H1.out, H2.out, H3.out, H4.out]; rfl)
    have HS2 := Lib.hid (show rkE l p q t v i = fndE l a b d g [4] by unfold rkE; rw [H5.out, H1.out, H2.out, H3.out, H4.out]; rfl)
    obtain ⟨s, hs⟩ : ∃ s, fndL l a b d g [4] = s := ⟨_, rfl⟩
    obtain ⟨ee, hee⟩ : ∃ s, fndE l a b d g [4] = s := ⟨_, rfl⟩
    have HS := Lib.hid hs
    have HE := Lib.hid hee
    clear hs hee
    have HK := Lib.hid (Blk.new w1 36 #[.int .i64 a, .int .i64 b, .int .i64 d, .int .i64 g])
    replace HB := Lib.hid (HB.out.alloc HB.out.size (.cells #[.int .i64 a, .int .i64 b, .int .i64 d, .int .i64 g] 36))
    replace HX := Lib.hid (HX.out.alloc (.cells #[.int .i64 a, .int .i64 b, .int .i64 d, .int .i64 g] 36))
    replace HL := Lib.hid (HL.out.alloc (.cells #[.int .i64 a, .int .i64 b, .int .i64 d, .int .i64 g] 36))
    have x0 : _ = some (Value.slice A n c) := HX.out.cell 0
    have k0 := cell0 HK.out
    have k1 := cell1 HK.out
    have k2 := cell2 HK.out
    have k3 := cell3 HK.out
    go_wp2_with fail
    go_at_call 97
    refine (keyt_sk A n c a b d g l _ HL.out hc hn s ee HS.out HE.out).mono ?_
    rintro e w2 ⟨rfl, hb⟩
    replace HB := Lib.hid (pure_below HB.out hb)
    clear hb x0 k0 k1 k2 k3
    go_wp2
    go_ret2
    exact skw_yes (by rw [HS2.out, HE.out]) (by rw [HS1.out, HS.out]) HB.out
  · have HS1 := Lib.hid (show rkS l p q t v i = [] by unfold rkS; rw [H5.out, if_pos he])
    have HS2 := Lib.hid (show rkE l p q t v i = er by unfold rkE; rw [H5.out, if_pos he])
    have hne : (er != 0) = true := by simpa using he
    clear he
    go_wp2
    go_ret2
    exact skw_no HS2.out HS1.out (HB.out.alloc HB.out.size _)
theorem opw_open {w w' : World} {A : Option Addr} {n c : Nat} {l : List UInt8} {p q t v : Int} {e : Ending} (h : OpW w A n c l p q t v e w') :
    ∃ S : Value, ∃ a0 a1 a2 a3 a4 : Int, e = .returned (.tuple #[.agg #[S, .int .i64 a0, .int .i64 a1, .int .i64 a2, .int .i64 a3, .int .i64 a4], .int .i64 (opE l p q t v)]) ∧ S.oneCell' = true ∧
      (opE l p q t v = 0 → S = .slice A n c ∧ a0 = kyP l p q t v ∧ a1 = kyQ l p q t v ∧ a2 = kyT l p q t v ∧ a3 = kyV l p q t v ∧ a4 = (lsLen l (kyP l p q t v) (kyQ l p q t v) (kyT l p q t v) (kyV l p q t v) : Nat)) ∧ Below w.heap.size w w' := by
  obtain ⟨rfl, hb⟩ := h
  unfold opV
  by_cases he : opE l p q t v = 0
  · rw [if_pos he]
    exact ⟨_, _, _, _, _, _, rfl, rfl, fun _ => ⟨rfl, rfl, rfl, rfl, rfl, rfl⟩, hb⟩
  · rw [if_neg he]
    exact ⟨_, _, _, _, _, _, rfl, rfl, fun h => absurd h he, hb⟩
set_option maxRecDepth 100000 in
set_option maxHeartbeats 2000000 in
theorem fkeyat_spec (A : Option Addr) (n c : Nat) (p q t v i : Int) (l : List UInt8) (w : World) (h : IsB w A n l) (hc : n ≤ c) (hn : n ≤ 1099511627776) :
    Calls Tryz.prog 71 #[.slice A n c, .agg #[.int .i64 p, .int .i64 q, .int .i64 t, .int .i64 v], .int .i64 i] w (SkW w (kaS l p q t v i) (kaE l p q t v i)) := by
  have HL := Lib.hid (h.alloc (.cells #[.int .i64 p, .int .i64 q, .int .i64 t, .int .i64 v] 36))
  have HB := Lib.hid ((Below.refl w.heap.size w).alloc (Nat.le_refl _) (.cells #[.int .i64 p, .int .i64 q, .int .i64 t, .int .i64 v] 36))
  clear h
  obtain ⟨er, her⟩ : ∃ x, opE l p q t v = x := ⟨_, rfl⟩
  have H5 := Lib.hid her
  clear her
  go_enter Tryz.func71, Tryz.ntmps71
  go_wp2_with fail
  go_at_call 63
  refine (fopen_spec A n c p q t v l _ HL.out hc hn).mono ?_
  intro e w1 hpost
  obtain ⟨S, a0, a1, a2, a3, a4, rfl, hS, heq, hb⟩ := opw_open hpost
  rw [H5.out] at heq ⊢
  replace HB := Lib.hid (pure_below HB.out hb)
  replace HL := Lib.hid (HL.out.pure hb)
  clear hb hpost
  by_cases he : er = 0
  · subst he
    obtain ⟨rfl, h0, h1, h2, h3, h4⟩ := heq rfl
    have HS1 := Lib.hid (show kaS l p q t v i = rkS l a0 a1 a2 a3 i by unfold kaS; rw [H5.out, h0, h1, h2, h3]; rfl)
    have HS2 := Lib.hid (show kaE l p q t v i = rkE l a0 a1 a2 a3 i by unfold kaE; rw [H5.out, h0, h1, h2, h3]; rfl)
    clear heq h0 h1 h2 h3 h4 hS
    have HK := Lib.hid (Blk.new w1 110 #[(.slice A n c), .int .i64 a0, .int .i64 a1, .int .i64 a2, .int .i64 a3, .int .i64 a4])
    replace HB := Lib.hid (HB.out.alloc HB.out.size (.cells #[(.slice A n c), .int .i64 a0, .int .i64 a1, .int .i64 a2, .int .i64 a3, .int .i64 a4] 110))
    replace HL := Lib.hid (HL.out.alloc (.cells #[(.slice A n c), .int .i64 a0, .int .i64 a1, .int .i64 a2, .int .i64 a3, .int .i64 a4] 110))
    have k0 : _ = some (Value.slice A n c) := HK.out.cell 0
    have k1 : _ = some (Value.int .i64 a0) := HK.out.cell 1
    have k2 : _ = some (Value.int .i64 a1) := HK.out.cell 2
    have k3 : _ = some (Value.int .i64 a2) := HK.out.cell 3
    have k4 : _ = some (Value.int .i64 a3) := HK.out.cell 4
    have k5 : _ = some (Value.int .i64 a4) := HK.out.cell 5
    go_wp2_with fail
    go_at_call 66
    refine (ftat_spec A n c a0 a1 a2 a3 a4 i l _ HL.out hc hn).mono ?_
    unfold SkW
    rintro e w2 ⟨rfl, hb⟩
    replace HB := Lib.hid (pure_below HB.out hb)
    clear hb k0 k1 k2 k3 k4 k5
    go_wp2
    go_ret2
    exact skw_yes HS2.out HS1.out HB.out
  · have HS1 := Lib.hid (show kaS l p q t v i = [] by unfold kaS; rw [H5.out, if_pos he])
    have HS2 := Lib.hid (show kaE l p q t v i = er by unfold kaE; rw [H5.out, if_pos he])
    have hne : (er != 0) = true := by simpa using he
    have hstS := fun (W : World) (p : Addr) => run_store Tryz.prog W p S .plain hS
    clear he heq hS
    go_wp2
    go_ret2
    exact skw_no HS2.out HS1.out (HB.out.alloc HB.out.size _)
/-! the reference -/
end Go.Proofs.YtfoifdoaleaekaaGreat
