/-
  Package find: the keys of a map.
-/
import Derived.Test.YtejalfjeihlpeaaGreatQ19
namespace Go.Proofs.YtejalfjeihlpeaaGreat
open Go.RowKit Go.Acc
/-- The width that a map states for its keys. -/
def kyU (l : List UInt8) (p q t v : Int) : Nat := loadU l ((lsFrom l p q t v : Int) + v) v
def kyE (l : List UInt8) (p q t v : Int) : Int :=
  if mayE l.length p q t v ≠ 0 then mayE l.length p q t v else if t ≠ 9 then 60 else if lsE l p q t v ≠ 0 then lsE l p q t v else if isW (kyU l p q t v : Int) = false then 212 else 0
def kyP (l : List UInt8) (p q t v : Int) : Int := if kyE l p q t v = 0 then lsFrom l p q t v else 0
def kyQ (l : List UInt8) (p q t v : Int) : Int := if kyE l p q t v = 0 then v else 0
def kyT (l : List UInt8) (p q t v : Int) : Int := if kyE l p q t v = 0 then 14 else 0
def kyV (l : List UInt8) (p q t v : Int) : Int := if kyE l p q t v = 0 then kyU l p q t v else 0
def KyW (w : World) (l : List UInt8) (p q t v : Int) (e : Ending) (w' : World) : Prop :=
  e = .returned (.tuple #[.agg #[.int .i64 (kyP l p q t v), .int .i64 (kyQ l p q t v), .int .i64 (kyT l p q t v), .int .i64 (kyV l p q t v)], .int .i64 (kyE l p q t v)]) ∧ Below w.heap.size w w'
theorem kyw_no {w w' : World} {l : List UInt8} {p q t v er : Int} (h : kyE l p q t v = er) (hne : er ≠ 0) (hb : Below w.heap.size w w') : KyW w l p q t v (.returned (.tuple #[.agg #[.int .i64 0, .int .i64 0, .int .i64 0, .int .i64 0], .int .i64 er])) w' := by
  unfold KyW kyP kyQ kyT kyV
  rw [h, if_neg hne, if_neg hne, if_neg hne, if_neg hne]
  exact ⟨rfl, hb⟩
theorem kyw_yes {w w' : World} {l : List UInt8} {p q t v a b g : Int} (h : kyE l p q t v = 0) (h1 : (lsFrom l p q t v : Int) = a) (h2 : v = b) (h3 : (kyU l p q t v : Int) = g) (hb : Below w.heap.size w w') : KyW w l p q t v (.returned (.tuple #[.agg #[.int .i64 a, .int .i64 b, .int .i64 14, .int .i64 g], .int .i64 0])) w' := by
  unfold KyW kyP kyQ kyT kyV
  rw [h, if_pos rfl, if_pos rfl, if_pos rfl, if_pos rfl, h1, h3, ← h2]
  exact ⟨rfl, hb⟩
theorem ky_cases (l : List UInt8) (p q t v : Int) : (mayE l.length p q t v ≠ 0 ∧ kyE l p q t v = mayE l.length p q t v) ∨ (mayE l.length p q t v = 0 ∧ ((t ≠ 9 ∧ kyE l p q t v = 60) ∨ (t = 9 ∧
    ((lsE l p q t v ≠ 0 ∧ kyE l p q t v = lsE l p q t v) ∨ (lsE l p q t v = 0 ∧ ((isW (kyU l p q t v : Int) = false ∧ kyE l p q t v = 212) ∨ (isW (kyU l p q t v : Int) = true ∧ kyE l p q t v = 0))))))) := by
  unfold kyE
  by_cases h1 : mayE l.length p q t v = 0
  · refine .inr ⟨h1, ?_⟩
    rw [if_neg (by simpa using h1)]
    by_cases h2 : t = 9
    · refine .inr ⟨h2, ?_⟩
      rw [if_neg (by simpa using h2)]
      by_cases h3 : lsE l p q t v = 0
      · refine .inr ⟨h3, ?_⟩
        rw [if_neg (by simpa using h3)]
        cases h4 : isW (kyU l p q t v : Int) with
        | false => exact .inl ⟨rfl, if_pos rfl⟩
        | true => exact .inr ⟨rfl, if_neg (by decide)⟩
      · rw [if_pos h3]; exact .inl ⟨h3, rfl⟩
    · rw [if_pos h2]; exact .inl ⟨h2, rfl⟩
  · rw [if_pos h1]; exact .inl ⟨h1, rfl⟩
theorem loadU64 (l : List UInt8) (a x : Int) : (loadU l a x : Int) < 18446744073709551616 := by
  unfold loadU
  split
  · rename_i h
    have h1 := isW_iff.1 h.1
    have hl := leVal_lt ((l.drop a.toNat).take x.toNat)
    have h8 : ((l.drop a.toNat).take x.toNat).length ≤ 8 := by
      have := List.length_take_le x.toNat (l.drop a.toNat)
      omega
    have := Nat.pow_le_pow_right (n := 2) (by omega) (Nat.mul_le_mul_left 8 h8)
    omega
  · omega
set_option maxRecDepth 100000 in
set_option maxHeartbeats 2000000 in
theorem fkeys_spec (A : Option Addr) (n c : Nat) (p q t v : Int) (l : List UInt8) (w : World) (h : IsB w A n l) (hc : n ≤ c) (hn : n ≤ 1099511627776) :
    Calls Tryz.prog 73 #[.slice A n c, .agg #[.int .i64 p, .int .i64 q, .int .i64 t, .int .i64 v]] w (KyW w l p q t v) := by
  have hlen := h.1
  subst hlen
  have HL := Lib.hid ((h.alloc (.cells #[.int .i64 p, .int .i64 q, .int .i64 t, .int .i64 v] 48)).alloc (.cells #[.int .i64 0, .int .i64 0, .int .i64 0, .int .i64 0] 48))
  have HB := Lib.hid (((Below.refl w.heap.size w).alloc (Nat.le_refl _) (.cells #[.int .i64 p, .int .i64 q, .int .i64 t, .int .i64 v] 48)).alloc (by simp) (.cells #[.int .i64 0, .int .i64 0, .int .i64 0, .int .i64 0] 48))
  have HX := Lib.hid ((Blk.new w 48 #[.int .i64 p, .int .i64 q, .int .i64 t, .int .i64 v]).alloc (.cells #[.int .i64 0, .int .i64 0, .int .i64 0, .int .i64 0] 48))
  have HR := Lib.hid (Blk.new_ (w := w.alloc (.cells #[.int .i64 p, .int .i64 q, .int .i64 t, .int .i64 v] 48)) (g := w.heap.size + 1) (by simp) 48 #[.int .i64 0, .int .i64 0, .int .i64 0, .int .i64 0])
  have hcs := ky_cases l p q t v
  clear h
  go_enter Tryz.func73, Tryz.ntmps73
  go_wp2_with fail
  go_at_call 86
  refine (may_spec A _ c p q t v _ (by omega)).mono ?_
  generalize (w.alloc (.cells #[.int .i64 p, .int .i64 q, .int .i64 t, .int .i64 v] 48)).alloc (.cells #[.int .i64 0, .int .i64 0, .int .i64 0, .int .i64 0] 48) = wB at HL HB HX HR ⊢
  have x0 := cell0 HX.out; have x1 := cell1 HX.out; have x2 := cell2 HX.out; have x3 := cell3 HX.out
  rintro e w1 ⟨rfl, hb⟩
  clear x0 x1 x2 x3; replace HB := Lib.hid (pure_below HB.out hb); replace HX := Lib.hid (HX.out.pure hb); replace HR := Lib.hid (HR.out.pure hb); replace HL := Lib.hid (HL.out.pure hb); clear hb; have x0 := cell0 HX.out; have x1 := cell1 HX.out; have x2 := cell2 HX.out; have x3 := cell3 HX.out
  rcases hcs with ⟨hm, he⟩ | ⟨hm, hcs⟩
  · have HE := Lib.hid he
    have HN := Lib.hid hm
    have hne : (mayE l.length p q t v != 0) = true := by simpa using hm
    clear he hm
    have r0 : _ = some (Value.int .i64 0) := HR.out.cell 0; have r1 : _ = some (Value.int .i64 0) := HR.out.cell 1; have r2 : _ = some (Value.int .i64 0) := HR.out.cell 2; have r3 : _ = some (Value.int .i64 0) := HR.out.cell 3; have f0 := HR.out.frozen 0; have f1 := HR.out.frozen 1; have f2 := HR.out.frozen 2; have f3 := HR.out.frozen 3
    go_wp2
    refine bodyPost_ret (v := .tuple #[.agg #[.int .i64 0, .int .i64 0, .int .i64 0, .int .i64 0], .int .i64 (mayE l.length p q t v)]) (by simp [results, Tryz.results73, go_sem, r0, r1, r2, r3]) rfl ?_
    exact kyw_no HE.out HN.out (below_set4 _ HB.out (Nat.le_succ _) _ _ _ _)
  · rw [hm]
    clear hm
    rcases hcs with ⟨h9, he⟩ | ⟨rfl, hcs⟩
    · have HE := Lib.hid he
      have HN := Lib.hid (show (60 : Int) ≠ 0 by decide)
      have hne : (t != 9) = true := by simpa using h9
      clear he h9
      have r0 : _ = some (Value.int .i64 0) := HR.out.cell 0; have r1 : _ = some (Value.int .i64 0) := HR.out.cell 1; have r2 : _ = some (Value.int .i64 0) := HR.out.cell 2; have r3 : _ = some (Value.int .i64 0) := HR.out.cell 3; have f0 := HR.out.frozen 0; have f1 := HR.out.frozen 1; have f2 := HR.out.frozen 2; have f3 := HR.out.frozen 3
      go_wp2
      refine bodyPost_ret (v := .tuple #[.agg #[.int .i64 0, .int .i64 0, .int .i64 0, .int .i64 0], .int .i64 60]) (by simp [results, Tryz.results73, go_sem, r0, r1, r2, r3]) rfl ?_
      exact kyw_no HE.out HN.out (below_set4 _ HB.out (Nat.le_succ _) _ _ _ _)
    · have HCS := Lib.hid hcs
      clear hcs
      go_wp2_with fail
      go_at_call 90
      refine (lspan_spec A _ c p q 9 v l _ HL.out hc hn).mono ?_
      rintro e w2 ⟨rfl, hb⟩
      clear x0 x1 x2 x3; replace HB := Lib.hid (pure_below HB.out hb); replace HX := Lib.hid (HX.out.pure hb); replace HR := Lib.hid (HR.out.pure hb); replace HL := Lib.hid (HL.out.pure hb); clear hb; have x0 := cell0 HX.out; have x1 := cell1 HX.out; have x2 := cell2 HX.out; have x3 := cell3 HX.out
      rcases HCS.out with ⟨hs, he⟩ | ⟨hs, hcs⟩
      · have HE := Lib.hid he
        have HN := Lib.hid hs
        have hne : (lsE l p q 9 v != 0) = true := by simpa using hs
        clear he hs HCS
        have r0 : _ = some (Value.int .i64 0) := HR.out.cell 0; have r1 : _ = some (Value.int .i64 0) := HR.out.cell 1; have r2 : _ = some (Value.int .i64 0) := HR.out.cell 2; have r3 : _ = some (Value.int .i64 0) := HR.out.cell 3; have f0 := HR.out.frozen 0; have f1 := HR.out.frozen 1; have f2 := HR.out.frozen 2; have f3 := HR.out.frozen 3
        go_wp2
        refine bodyPost_ret (v := .tuple #[.agg #[.int .i64 0, .int .i64 0, .int .i64 0, .int .i64 0], .int .i64 (lsE l p q 9 v)]) (by simp [results, Tryz.results73, go_sem, r0, r1, r2, r3]) rfl ?_
        exact kyw_no HE.out HN.out (below_set4 _ HB.out (Nat.le_succ _) _ _ _ _)
      · obtain ⟨_, _, hW, _⟩ := ls_ok hs
        have hv := isW_iff.1 hW
        rw [hs]
        obtain ⟨V, rfl⟩ : ∃ V : Nat, v = V := ⟨v.toNat, by omega⟩
        obtain ⟨e1, e2, e3, _⟩ := ls_within hs
        obtain ⟨nf, hnf⟩ : ∃ x, lsFrom l p q 9 V = x := ⟨_, rfl⟩
        obtain ⟨U, hU⟩ : ∃ U, kyU l p q 9 V = U := ⟨_, rfl⟩
        have hnf40 : nf ≤ 1099511627776 := by omega
        have HU := Lib.hid (show loadU l ((nf : Int) + (V : Int)) V = U by rw [← hU, ← hnf]; rfl)
        have HKU := Lib.hid hU
        have HNF := Lib.hid hnf
        have hV8 : V ≤ 8 := by omega
        rw [hU] at hcs
        rw [hnf]
        have HC2 := Lib.hid hcs
        clear hcs hU hnf hs e1 e2 e3 hv hW HCS
        rcases HC2.out with ⟨hw, he⟩ | ⟨hw, he⟩
        · have HE := Lib.hid he
          have HN := Lib.hid (show (212 : Int) ≠ 0 by decide)
          have hU64 : (U : Int) < 18446744073709551616 := by rw [← HU.out]; exact loadU64 _ _ _
          have HW := Lib.hid hw
          clear he hw HC2
          go_wp2_with fail
          go_at_call 87
          refine (load_spec2 A _ c ((nf : Int) + V) V l _ (loadE l.length ((nf : Int) + V) V) U HL.out hc (by omega) rfl HU.out).mono ?_
          rintro e w3 ⟨rfl, hb⟩
          clear x0 x1 x2 x3; replace HB := Lib.hid (pure_below HB.out hb); replace HX := Lib.hid (HX.out.pure hb); replace HR := Lib.hid (HR.out.pure hb); replace HL := Lib.hid (HL.out.pure hb); clear hb; have x0 := cell0 HX.out; have x1 := cell1 HX.out; have x2 := cell2 HX.out; have x3 := cell3 HX.out
          go_wp2_with fail
          go_at_call 19
          refine (code_spec ((U : Int) % 4294967296) _).mono ?_
          cases hx : isW ((U : Int) % 4294967296) with
          | false =>
            rw [codeE_no hx]
            rintro e w4 ⟨rfl, rfl⟩
            clear hx
            have r0 : _ = some (Value.int .i64 0) := HR.out.cell 0; have r1 : _ = some (Value.int .i64 0) := HR.out.cell 1; have r2 : _ = some (Value.int .i64 0) := HR.out.cell 2; have r3 : _ = some (Value.int .i64 0) := HR.out.cell 3; have f0 := HR.out.frozen 0; have f1 := HR.out.frozen 1; have f2 := HR.out.frozen 2; have f3 := HR.out.frozen 3
            go_wp2
            refine bodyPost_ret (v := .tuple #[.agg #[.int .i64 0, .int .i64 0, .int .i64 0, .int .i64 0], .int .i64 212]) (by simp [results, Tryz.results73, go_sem, r0, r1, r2, r3]) rfl ?_
            exact kyw_no HE.out HN.out (below_set4 _ HB.out (Nat.le_succ _) _ _ _ _)
          | true =>
            rw [codeE_yes hx]
            rintro e w4 ⟨rfl, rfl⟩
            have hq : ¬ (U / 4294967296 = 0) := by
              intro h0
              have e : (U : Int) % 4294967296 = U := by omega
              rw [e, HW.out] at hx
              cases hx
            have hne : (((U : Int) / 4294967296) != 0) = true := by simpa using (show ¬ ((U : Int) / 4294967296 = 0) by omega)
            clear hx hq
            have r0 : _ = some (Value.int .i64 0) := HR.out.cell 0; have r1 : _ = some (Value.int .i64 0) := HR.out.cell 1; have r2 : _ = some (Value.int .i64 0) := HR.out.cell 2; have r3 : _ = some (Value.int .i64 0) := HR.out.cell 3; have f0 := HR.out.frozen 0; have f1 := HR.out.frozen 1; have f2 := HR.out.frozen 2; have f3 := HR.out.frozen 3
            go_wp2
            refine bodyPost_ret (v := .tuple #[.agg #[.int .i64 0, .int .i64 0, .int .i64 0, .int .i64 0], .int .i64 212]) (by simp [results, Tryz.results73, go_sem, r0, r1, r2, r3]) rfl ?_
            exact kyw_no HE.out HN.out (below_set4 _ HB.out (Nat.le_succ _) _ _ _ _)
        · have hw4 := isW_iff.1 hw
          have HE := Lib.hid he
          clear he hw HC2
          have hU4 : U = 1 ∨ U = 2 ∨ U = 4 ∨ U = 8 := by omega
          clear hw4
          rcases hU4 with rfl | rfl | rfl | rfl
          · go_wp2_with fail
            go_at_call 87
            refine (load_spec2 A _ c ((nf : Int) + V) V l _ (loadE l.length ((nf : Int) + V) V) 1 HL.out hc (by omega) rfl HU.out).mono ?_
            rintro e w3 ⟨rfl, hb⟩
            clear x0 x1 x2 x3; replace HB := Lib.hid (pure_below HB.out hb); replace HX := Lib.hid (HX.out.pure hb); replace HR := Lib.hid (HR.out.pure hb); replace HL := Lib.hid (HL.out.pure hb); clear hb; have x0 := cell0 HX.out; have x1 := cell1 HX.out; have x2 := cell2 HX.out; have x3 := cell3 HX.out
            go_wp2_with fail
            go_at_call 19
            refine (code_spec 1 _).mono ?_
            rw [show codeE 1 = 0 by decide]
            rintro e w4 ⟨rfl, rfl⟩
            have r0 : _ = some (Value.int .i64 0) := HR.out.cell 0; have r1 : _ = some (Value.int .i64 0) := HR.out.cell 1; have r2 : _ = some (Value.int .i64 0) := HR.out.cell 2; have r3 : _ = some (Value.int .i64 0) := HR.out.cell 3; have f0 := HR.out.frozen 0; have f1 := HR.out.frozen 1; have f2 := HR.out.frozen 2; have f3 := HR.out.frozen 3
            go_wp2
            refine bodyPost_ret (v := .tuple #[.agg #[.int .i64 nf, .int .i64 V, .int .i64 14, .int .i64 1], .int .i64 0]) (by simp [results, Tryz.results73, go_sem, r0, r1, r2, r3]) rfl ?_
            exact kyw_yes HE.out (by rw [HNF.out]) rfl (by rw [HKU.out]; rfl) (below_set4 _ HB.out (Nat.le_succ _) _ _ _ _)
          · go_wp2_with fail
            go_at_call 87
            refine (load_spec2 A _ c ((nf : Int) + V) V l _ (loadE l.length ((nf : Int) + V) V) 2 HL.out hc (by omega) rfl HU.out).mono ?_
            rintro e w3 ⟨rfl, hb⟩
            clear x0 x1 x2 x3; replace HB := Lib.hid (pure_below HB.out hb); replace HX := Lib.hid (HX.out.pure hb); replace HR := Lib.hid (HR.out.pure hb); replace HL := Lib.hid (HL.out.pure hb); clear hb; have x0 := cell0 HX.out; have x1 := cell1 HX.out; have x2 := cell2 HX.out; have x3 := cell3 HX.out
            go_wp2_with fail
            go_at_call 19
            refine (code_spec 2 _).mono ?_
            rw [show codeE 2 = 0 by decide]
            rintro e w4 ⟨rfl, rfl⟩
            have r0 : _ = some (Value.int .i64 0) := HR.out.cell 0; have r1 : _ = some (Value.int .i64 0) := HR.out.cell 1; have r2 : _ = some (Value.int .i64 0) := HR.out.cell 2; have r3 : _ = some (Value.int .i64 0) := HR.out.cell 3; have f0 := HR.out.frozen 0; have f1 := HR.out.frozen 1; have f2 := HR.out.frozen 2; have f3 := HR.out.frozen 3
            go_wp2
            refine bodyPost_ret (v := .tuple #[.agg #[.int .i64 nf, .int .i64 V, .int .i64 14, .int .i64 2], .int .i64 0]) (by simp [results, Tryz.results73, go_sem, r0, r1, r2, r3]) rfl ?_
            exact kyw_yes HE.out (by rw [HNF.out]) rfl (by rw [HKU.out]; rfl) (below_set4 _ HB.out (Nat.le_succ _) _ _ _ _)
          · go_wp2_with fail
            go_at_call 87
            refine (load_spec2 A _ c ((nf : Int) + V) V l _ (loadE l.length ((nf : Int) + V) V) 4 HL.out hc (by omega) rfl HU.out).mono ?_
            rintro e w3 ⟨rfl, hb⟩
            clear x0 x1 x2 x3; replace HB := Lib.hid (pure_below HB.out hb); replace HX := Lib.hid (HX.out.pure hb); replace HR := Lib.hid (HR.out.pure hb); replace HL := Lib.hid (HL.out.pure hb); clear hb; have x0 := cell0 HX.out; have x1 := cell1 HX.out; have x2 := cell2 HX.out; have x3 := cell3 HX.out
            go_wp2_with fail
            go_at_call 19
            refine (code_spec 4 _).mono ?_
            rw [show codeE 4 = 0 by decide]
            rintro e w4 ⟨rfl, rfl⟩
            have r0 : _ = some (Value.int .i64 0) := HR.out.cell 0; have r1 : _ = some (Value.int .i64 0) := HR.out.cell 1; have r2 : _ = some (Value.int .i64 0) := HR.out.cell 2; have r3 : _ = some (Value.int .i64 0) := HR.out.cell 3; have f0 := HR.out.frozen 0; have f1 := HR.out.frozen 1; have f2 := HR.out.frozen 2; have f3 := HR.out.frozen 3
            go_wp2
            refine bodyPost_ret (v := .tuple #[.agg #[.int .i64 nf, .int .i64 V, .int .i64 14, .int .i64 4], .int .i64 0]) (by simp [results, Tryz.results73, go_sem, r0, r1, r2, r3]) rfl ?_
            exact kyw_yes HE.out (by rw [HNF.out]) rfl (by rw [HKU.out]; rfl) (below_set4 _ HB.out (Nat.le_succ _) _ _ _ _)
          · go_wp2_with fail
            go_at_call 87
            refine (load_spec2 A _ c ((nf : Int) + V) V l _ (loadE l.length ((nf : Int) + V) V) 8 HL.out hc (by omega) rfl HU.out).mono ?_
            rintro e w3 ⟨rfl, hb⟩
            clear x0 x1 x2 x3; replace HB := Lib.hid (pure_below HB.out hb); replace HX := Lib.hid (HX.out.pure hb); replace HR := Lib.hid (HR.out.pure hb); replace HL := Lib.hid (HL.out.pure hb); clear hb; have x0 := cell0 HX.out; have x1 := cell1 HX.out; have x2 := cell2 HX.out; have x3 := cell3 HX.out
            go_wp2_with fail
            go_at_call 19
            refine (code_spec 8 _).mono ?_
            rw [show codeE 8 = 0 by decide]
            rintro e w4 ⟨rfl, rfl⟩
            have r0 : _ = some (Value.int .i64 0) := HR.out.cell 0; have r1 : _ = some (Value.int .i64 0) := HR.out.cell 1; have r2 : _ = some (Value.int .i64 0) := HR.out.cell 2; have r3 : _ = some (Value.int .i64 0) := HR.out.cell 3; have f0 := HR.out.frozen 0; have f1 := HR.out.frozen 1; have f2 := HR.out.frozen 2; have f3 := HR.out.frozen 3
            go_wp2
            refine bodyPost_ret (v := .tuple #[.agg #[.int .i64 nf, .int .i64 V, .int .i64 14, .int .i64 8], .int .i64 0]) (by simp [results, Tryz.results73, go_sem, r0, r1, r2, r3]) rfl ?_
            exact kyw_yes HE.out (by rw [HNF.out]) rfl (by rw [HKU.out]; rfl) (below_set4 _ HB.out (Nat.le_succ _) _ _ _ _)
set_option maxRecDepth 100000 in
set_option maxHeartbeats 2000000 in
theorem rfkeys_spec (A : Option Addr) (n c : Nat) (p q t v : Int) (l : List UInt8) (w : World) (h : IsB w A n l) (hn : n ≤ 1099511627776) :
    Calls Tryz.prog 78 #[.slice A n c, .agg #[.int .i64 p, .int .i64 q, .int .i64 t, .int .i64 v]] w (KyW w l p q t v) := by
  have hlen := h.1
  subst hlen
  have HL := Lib.hid ((h.alloc (.cells #[.int .i64 p, .int .i64 q, .int .i64 t, .int .i64 v] 48)).alloc (.cells #[.int .i64 0, .int .i64 0, .int .i64 0, .int .i64 0] 48))
  have HB := Lib.hid (((Below.refl w.heap.size w).alloc (Nat.le_refl _) (.cells #[.int .i64 p, .int .i64 q, .int .i64 t, .int .i64 v] 48)).alloc (by simp) (.cells #[.int .i64 0, .int .i64 0, .int .i64 0, .int .i64 0] 48))
  have HX := Lib.hid ((Blk.new w 48 #[.int .i64 p, .int .i64 q, .int .i64 t, .int .i64 v]).alloc (.cells #[.int .i64 0, .int .i64 0, .int .i64 0, .int .i64 0] 48))
  have HR := Lib.hid (Blk.new_ (w := w.alloc (.cells #[.int .i64 p, .int .i64 q, .int .i64 t, .int .i64 v] 48)) (g := w.heap.size + 1) (by simp) 48 #[.int .i64 0, .int .i64 0, .int .i64 0, .int .i64 0])
  have hcs := ky_cases l p q t v
  clear h
  go_enter Tryz.func78, Tryz.ntmps78
  go_wp2_with fail
  go_at_call 98
  refine (rmay_spec A _ c p q t v _ (by omega)).mono ?_
  generalize (w.alloc (.cells #[.int .i64 p, .int .i64 q, .int .i64 t, .int .i64 v] 48)).alloc (.cells #[.int .i64 0, .int .i64 0, .int .i64 0, .int .i64 0] 48) = wB at HL HB HX HR ⊢
  have x0 := cell0 HX.out; have x1 := cell1 HX.out; have x2 := cell2 HX.out; have x3 := cell3 HX.out
  rintro e w1 ⟨rfl, hb⟩
  clear x0 x1 x2 x3; replace HB := Lib.hid (pure_below HB.out hb); replace HX := Lib.hid (HX.out.pure hb); replace HR := Lib.hid (HR.out.pure hb); replace HL := Lib.hid (HL.out.pure hb); clear hb; have x0 := cell0 HX.out; have x1 := cell1 HX.out; have x2 := cell2 HX.out; have x3 := cell3 HX.out
  rcases hcs with ⟨hm, he⟩ | ⟨hm, hcs⟩
  · have HE := Lib.hid he
    have HN := Lib.hid hm
    have hne : (mayE l.length p q t v != 0) = true := by simpa using hm
    clear he hm
    have r0 : _ = some (Value.int .i64 0) := HR.out.cell 0; have r1 : _ = some (Value.int .i64 0) := HR.out.cell 1; have r2 : _ = some (Value.int .i64 0) := HR.out.cell 2; have r3 : _ = some (Value.int .i64 0) := HR.out.cell 3; have f0 := HR.out.frozen 0; have f1 := HR.out.frozen 1; have f2 := HR.out.frozen 2; have f3 := HR.out.frozen 3
    go_wp2
    refine bodyPost_ret (v := .tuple #[.agg #[.int .i64 0, .int .i64 0, .int .i64 0, .int .i64 0], .int .i64 (mayE l.length p q t v)]) (by simp [results, Tryz.results78, go_sem, r0, r1, r2, r3]) rfl ?_
    exact kyw_no HE.out HN.out (below_set4 _ HB.out (Nat.le_succ _) _ _ _ _)
  · rw [hm]
    clear hm
    rcases hcs with ⟨h9, he⟩ | ⟨rfl, hcs⟩
    · have HE := Lib.hid he
      have HN := Lib.hid (show (60 : Int) ≠ 0 by decide)
      have hne : (t != 9) = true := by simpa using h9
      clear he h9
      have r0 : _ = some (Value.int .i64 0) := HR.out.cell 0; have r1 : _ = some (Value.int .i64 0) := HR.out.cell 1; have r2 : _ = some (Value.int .i64 0) := HR.out.cell 2; have r3 : _ = some (Value.int .i64 0) := HR.out.cell 3; have f0 := HR.out.frozen 0; have f1 := HR.out.frozen 1; have f2 := HR.out.frozen 2; have f3 := HR.out.frozen 3
      go_wp2
      refine bodyPost_ret (v := .tuple #[.agg #[.int .i64 0, .int .i64 0, .int .i64 0, .int .i64 0], .int .i64 60]) (by simp [results, Tryz.results78, go_sem, r0, r1, r2, r3]) rfl ?_
      exact kyw_no HE.out HN.out (below_set4 _ HB.out (Nat.le_succ _) _ _ _ _)
    · have HCS := Lib.hid hcs
      clear hcs
      go_wp2_with fail
      go_at_call 102
      refine (rspans_spec A _ c p q 9 v l _ HL.out hn).mono ?_
      rintro e w2 ⟨rfl, hb⟩
      clear x0 x1 x2 x3; replace HB := Lib.hid (pure_below HB.out hb); replace HX := Lib.hid (HX.out.pure hb); replace HR := Lib.hid (HR.out.pure hb); replace HL := Lib.hid (HL.out.pure hb); clear hb; have x0 := cell0 HX.out; have x1 := cell1 HX.out; have x2 := cell2 HX.out; have x3 := cell3 HX.out
      rcases HCS.out with ⟨hs, he⟩ | ⟨hs, hcs⟩
      · have HE := Lib.hid he
        have HN := Lib.hid hs
        have hne : (lsE l p q 9 v != 0) = true := by simpa using hs
        clear he hs HCS
        have r0 : _ = some (Value.int .i64 0) := HR.out.cell 0; have r1 : _ = some (Value.int .i64 0) := HR.out.cell 1; have r2 : _ = some (Value.int .i64 0) := HR.out.cell 2; have r3 : _ = some (Value.int .i64 0) := HR.out.cell 3; have f0 := HR.out.frozen 0; have f1 := HR.out.frozen 1; have f2 := HR.out.frozen 2; have f3 := HR.out.frozen 3
        go_wp2
        refine bodyPost_ret (v := .tuple #[.agg #[.int .i64 0, .int .i64 0, .int .i64 0, .int .i64 0], .int .i64 (lsE l p q 9 v)]) (by simp [results, Tryz.results78, go_sem, r0, r1, r2, r3]) rfl ?_
        exact kyw_no HE.out HN.out (below_set4 _ HB.out (Nat.le_succ _) _ _ _ _)
      · obtain ⟨_, _, hW, _⟩ := ls_ok hs
        have hv := isW_iff.1 hW
        rw [hs]
        obtain ⟨V, rfl⟩ : ∃ V : Nat, v = V := ⟨v.toNat, by omega⟩
        obtain ⟨e1, e2, e3, _⟩ := ls_within hs
        obtain ⟨nf, hnf⟩ : ∃ x, lsFrom l p q 9 V = x := ⟨_, rfl⟩
        obtain ⟨U, hU⟩ : ∃ U, kyU l p q 9 V = U := ⟨_, rfl⟩
        have hnf40 : nf ≤ 1099511627776 := by omega
        have HU := Lib.hid (show loadU l ((nf : Int) + (V : Int)) V = U by rw [← hU, ← hnf]; rfl)
        have HKU := Lib.hid hU
        have HNF := Lib.hid hnf
        have hV8 : V ≤ 8 := by omega
        rw [hU] at hcs
        rw [hnf]
        have HC2 := Lib.hid hcs
        clear hcs hU hnf hs e1 e2 e3 hv hW HCS
        rcases HC2.out with ⟨hw, he⟩ | ⟨hw, he⟩
        · have HE := Lib.hid he
          have HN := Lib.hid (show (212 : Int) ≠ 0 by decide)
          have HW := Lib.hid hw
          clear he hw HC2
          by_cases h8 : 8 < U
          · have hd : decide ((8 : Int) < (U : Int)) = true := decide_eq_true (by omega)
            clear h8
            go_wp2_with fail
            go_at_call 99
            refine (rload_spec2 A _ c ((nf : Int) + V) V l _ (loadE l.length ((nf : Int) + V) V) U HL.out (by omega) rfl HU.out).mono ?_
            rintro e w3 ⟨rfl, hb⟩
            clear x0 x1 x2 x3; replace HB := Lib.hid (pure_below HB.out hb); replace HX := Lib.hid (HX.out.pure hb); replace HR := Lib.hid (HR.out.pure hb); replace HL := Lib.hid (HL.out.pure hb); clear hb; have x0 := cell0 HX.out; have x1 := cell1 HX.out; have x2 := cell2 HX.out; have x3 := cell3 HX.out
            have r0 : _ = some (Value.int .i64 0) := HR.out.cell 0; have r1 : _ = some (Value.int .i64 0) := HR.out.cell 1; have r2 : _ = some (Value.int .i64 0) := HR.out.cell 2; have r3 : _ = some (Value.int .i64 0) := HR.out.cell 3; have f0 := HR.out.frozen 0; have f1 := HR.out.frozen 1; have f2 := HR.out.frozen 2; have f3 := HR.out.frozen 3
            go_wp2
            refine bodyPost_ret (v := .tuple #[.agg #[.int .i64 0, .int .i64 0, .int .i64 0, .int .i64 0], .int .i64 212]) (by simp [results, Tryz.results78, go_sem, r0, r1, r2, r3]) rfl ?_
            exact kyw_no HE.out HN.out (below_set4 _ HB.out (Nat.le_succ _) _ _ _ _)
          · have hd : decide ((8 : Int) < (U : Int)) = false := decide_eq_false (by omega)
            go_wp2_with fail
            go_at_call 99
            refine (rload_spec2 A _ c ((nf : Int) + V) V l _ (loadE l.length ((nf : Int) + V) V) U HL.out (by omega) rfl HU.out).mono ?_
            rintro e w3 ⟨rfl, hb⟩
            clear x0 x1 x2 x3; replace HB := Lib.hid (pure_below HB.out hb); replace HX := Lib.hid (HX.out.pure hb); replace HR := Lib.hid (HR.out.pure hb); replace HL := Lib.hid (HL.out.pure hb); clear hb; have x0 := cell0 HX.out; have x1 := cell1 HX.out; have x2 := cell2 HX.out; have x3 := cell3 HX.out
            go_wp2_with fail
            go_at_call 60
            refine (wide_spec U _).mono ?_
            rw [HW.out]
            rintro e w4 ⟨rfl, rfl⟩
            have r0 : _ = some (Value.int .i64 0) := HR.out.cell 0; have r1 : _ = some (Value.int .i64 0) := HR.out.cell 1; have r2 : _ = some (Value.int .i64 0) := HR.out.cell 2; have r3 : _ = some (Value.int .i64 0) := HR.out.cell 3; have f0 := HR.out.frozen 0; have f1 := HR.out.frozen 1; have f2 := HR.out.frozen 2; have f3 := HR.out.frozen 3
            go_wp2
            refine bodyPost_ret (v := .tuple #[.agg #[.int .i64 0, .int .i64 0, .int .i64 0, .int .i64 0], .int .i64 212]) (by simp [results, Tryz.results78, go_sem, r0, r1, r2, r3]) rfl ?_
            exact kyw_no HE.out HN.out (below_set4 _ HB.out (Nat.le_succ _) _ _ _ _)
        · have hw4 := isW_iff.1 hw
          have HE := Lib.hid he
          clear he hw HC2
          have hU4 : U = 1 ∨ U = 2 ∨ U = 4 ∨ U = 8 := by omega
          clear hw4
          rcases hU4 with rfl | rfl | rfl | rfl
          · go_wp2_with fail
            go_at_call 99
            refine (rload_spec2 A _ c ((nf : Int) + V) V l _ (loadE l.length ((nf : Int) + V) V) 1 HL.out (by omega) rfl HU.out).mono ?_
            rintro e w3 ⟨rfl, hb⟩
            clear x0 x1 x2 x3; replace HB := Lib.hid (pure_below HB.out hb); replace HX := Lib.hid (HX.out.pure hb); replace HR := Lib.hid (HR.out.pure hb); replace HL := Lib.hid (HL.out.pure hb); clear hb; have x0 := cell0 HX.out; have x1 := cell1 HX.out; have x2 := cell2 HX.out; have x3 := cell3 HX.out
            go_wp2_with fail
            go_at_call 60
            refine (wide_spec 1 _).mono ?_
            rw [show isW 1 = true by decide]
            rintro e w4 ⟨rfl, rfl⟩
            have r0 : _ = some (Value.int .i64 0) := HR.out.cell 0; have r1 : _ = some (Value.int .i64 0) := HR.out.cell 1; have r2 : _ = some (Value.int .i64 0) := HR.out.cell 2; have r3 : _ = some (Value.int .i64 0) := HR.out.cell 3; have f0 := HR.out.frozen 0; have f1 := HR.out.frozen 1; have f2 := HR.out.frozen 2; have f3 := HR.out.frozen 3
            go_wp2
            refine bodyPost_ret (v := .tuple #[.agg #[.int .i64 nf, .int .i64 V, .int .i64 14, .int .i64 1], .int .i64 0]) (by simp [results, Tryz.results78, go_sem, r0, r1, r2, r3]) rfl ?_
            exact kyw_yes HE.out (by rw [HNF.out]) rfl (by rw [HKU.out]; rfl) (below_set4 _ HB.out (Nat.le_succ _) _ _ _ _)
          · go_wp2_with fail
            go_at_call 99
            refine (rload_spec2 A _ c ((nf : Int) + V) V l _ (loadE l.length ((nf : Int) + V) V) 2 HL.out (by omega) rfl HU.out).mono ?_
            rintro e w3 ⟨rfl, hb⟩
            clear x0 x1 x2 x3; replace HB := Lib.hid (pure_below HB.out hb); replace HX := Lib.hid (HX.out.pure hb); replace HR := Lib.hid (HR.out.pure hb); replace HL := Lib.hid (HL.out.pure hb); clear hb; have x0 := cell0 HX.out; have x1 := cell1 HX.out; have x2 := cell2 HX.out; have x3 := cell3 HX.out
            go_wp2_with fail
            go_at_call 60
            refine (wide_spec 2 _).mono ?_
            rw [show isW 2 = true by decide]
            rintro e w4 ⟨rfl, rfl⟩
            have r0 : _ = some (Value.int .i64 0) := HR.out.cell 0; have r1 : _ = some (Value.int .i64 0) := HR.out.cell 1; have r2 : _ = some (Value.int .i64 0) := HR.out.cell 2; have r3 : _ = some (Value.int .i64 0) := HR.out.cell 3; have f0 := HR.out.frozen 0; have f1 := HR.out.frozen 1; have f2 := HR.out.frozen 2; have f3 := HR.out.frozen 3
            go_wp2
            refine bodyPost_ret (v := .tuple #[.agg #[.int .i64 nf, .int .i64 V, .int .i64 14, .int .i64 2], .int .i64 0]) (by simp [results, Tryz.results78, go_sem, r0, r1, r2, r3]) rfl ?_
            exact kyw_yes HE.out (by rw [HNF.out]) rfl (by rw [HKU.out]; rfl) (below_set4 _ HB.out (Nat.le_succ _) _ _ _ _)
          · go_wp2_with fail
            go_at_call 99
            refine (rload_spec2 A _ c ((nf : Int) + V) V l _ (loadE l.length ((nf : Int) + V) V) 4 HL.out (by omega) rfl HU.out).mono ?_
            rintro e w3 ⟨rfl, hb⟩
            clear x0 x1 x2 x3; replace HB := Lib.hid (pure_below HB.out hb); replace HX := Lib.hid (HX.out.pure hb); replace HR := Lib.hid (HR.out.pure hb); replace HL := Lib.hid (HL.out.pure hb); clear hb; have x0 := cell0 HX.out; have x1 := cell1 HX.out; have x2 := cell2 HX.out; have x3 := cell3 HX.out
            go_wp2_with fail
            go_at_call 60
            refine (wide_spec 4 _).mono ?_
            rw [show isW 4 = true by decide]
            rintro e w4 ⟨rfl, rfl⟩
            have r0 : _ = some (Value.int .i64 0) := HR.out.cell 0; have r1 : _ = some (Value.int .i64 0) := HR.out.cell 1; have r2 : _ = some (Value.int .i64 0) := HR.out.cell 2; have r3 : _ = some (Value.int .i64 0) := HR.out.cell 3; have f0 := HR.out.frozen 0; have f1 := HR.out.frozen 1; have f2 := HR.out.frozen 2; have f3 := HR.out.frozen 3
            go_wp2
            refine bodyPost_ret (v := .tuple #[.agg #[.int .i64 nf, .int .i64 V, .int .i64 14, .int .i64 4], .int .i64 0]) (by simp [results, Tryz.results78, go_sem, r0, r1, r2, r3]) rfl ?_
            exact kyw_yes HE.out (by rw [HNF.out]) rfl (by rw [HKU.out]; rfl) (below_set4 _ HB.out (Nat.le_succ _) _ _ _ _)
          · go_wp2_with fail
            go_at_call 99
            refine (rload_spec2 A _ c ((nf : Int) + V) V l _ (loadE l.length ((nf : Int) + V) V) 8 HL.out (by omega) rfl HU.out).mono ?_
            rintro e w3 ⟨rfl, hb⟩
            clear x0 x1 x2 x3; replace HB := Lib.hid (pure_below HB.out hb); replace HX := Lib.hid (HX.out.pure hb); replace HR := Lib.hid (HR.out.pure hb); replace HL := Lib.hid (HL.out.pure hb); clear hb; have x0 := cell0 HX.out; have x1 := cell1 HX.out; have x2 := cell2 HX.out; have x3 := cell3 HX.out
            go_wp2_with fail
            go_at_call 60
            refine (wide_spec 8 _).mono ?_
            rw [show isW 8 = true by decide]
            rintro e w4 ⟨rfl, rfl⟩
            have r0 : _ = some (Value.int .i64 0) := HR.out.cell 0; have r1 : _ = some (Value.int .i64 0) := HR.out.cell 1; have r2 : _ = some (Value.int .i64 0) := HR.out.cell 2; have r3 : _ = some (Value.int .i64 0) := HR.out.cell 3; have f0 := HR.out.frozen 0; have f1 := HR.out.frozen 1; have f2 := HR.out.frozen 2; have f3 := HR.out.frozen 3
            go_wp2
            refine bodyPost_ret (v := .tuple #[.agg #[.int .i64 nf, .int .i64 V, .int .i64 14, .int .i64 8], .int .i64 0]) (by simp [results, Tryz.results78, go_sem, r0, r1, r2, r3]) rfl ?_
            exact kyw_yes HE.out (by rw [HNF.out]) rfl (by rw [HKU.out]; rfl) (below_set4 _ HB.out (Nat.le_succ _) _ _ _ _)
end Go.Proofs.YtejalfjeihlpeaaGreat

/-
  Package find: a map whose keys have been located; the key at an index.
-/
namespace Go.Proofs.YtejalfjeihlpeaaGreat
open Go.RowKit Go.Acc
def opE (l : List UInt8) (p q t v : Int) : Int :=
  if kyE l p q t v ≠ 0 then kyE l p q t v else if lsE l (kyP l p q t v) (kyQ l p q t v) (kyT l p q t v) (kyV l p q t v) ≠ 0 then lsE l (kyP l p q t v) (kyQ l p q t v) (kyT l p q t v) (kyV l p q t v) else if lsLen l p q t v ≠ lsLen l (kyP l p q t v) (kyQ l p q t v) (kyT l p q t v) (kyV l p q t v) then 214 else 0
theorem op_cases (l : List UInt8) (p q t v : Int) : (kyE l p q t v ≠ 0 ∧ opE l p q t v = kyE l p q t v) ∨ (kyE l p q t v = 0 ∧ ((lsE l (kyP l p q t v) (kyQ l p q t v) (kyT l p q t v) (kyV l p q t v) ≠ 0 ∧ opE l p q t v = lsE l (kyP l p q t v) (kyQ l p q t v) (kyT l p q t v) (kyV l p q t v)) ∨ (lsE l (kyP l p q t v) (kyQ l p q t v) (kyT l p q t v) (kyV l p q t v) = 0 ∧
    ((lsLen l p q t v ≠ lsLen l (kyP l p q t v) (kyQ l p q t v) (kyT l p q t v) (kyV l p q t v) ∧ opE l p q t v = 214) ∨ (lsLen l p q t v = lsLen l (kyP l p q t v) (kyQ l p q t v) (kyT l p q t v) (kyV l p q t v) ∧ opE l p q t v = 0))))) := by
  unfold opE
  by_cases h1 : kyE l p q t v = 0
  · refine .inr ⟨h1, ?_⟩
    rw [if_neg (by simpa using h1)]
    by_cases h2 : lsE l (kyP l p q t v) (kyQ l p q t v) (kyT l p q t v) (kyV l p q t v) = 0
    · refine .inr ⟨h2, ?_⟩
      rw [if_neg (by simpa using h2)]
      by_cases h3 : lsLen l p q t v = lsLen l (kyP l p q t v) (kyQ l p q t v) (kyT l p q t v) (kyV l p q t v)
      · rw [if_neg (by simpa using h3)]; exact .inr ⟨h3, rfl⟩
      · rw [if_pos h3]; exact .inl ⟨h3, rfl⟩
    · rw [if_pos h2]; exact .inl ⟨h2, rfl⟩
  · rw [if_pos h1]; exact .inl ⟨h1, rfl⟩
def opV (A : Option Addr) (n c : Nat) (l : List UInt8) (p q t v : Int) : Value :=
  if opE l p q t v = 0 then .agg #[(.slice A n c), .int .i64 (kyP l p q t v), .int .i64 (kyQ l p q t v), .int .i64 (kyT l p q t v), .int .i64 (kyV l p q t v), .int .i64 (lsLen l (kyP l p q t v) (kyQ l p q t v) (kyT l p q t v) (kyV l p q t v) : Nat)] else .agg #[(.slice none 0 0), .int .i64 0, .int .i64 0, .int .i64 0, .int .i64 0, .int .i64 0]
def OpW (w : World) (A : Option Addr) (n c : Nat) (l : List UInt8) (p q t v : Int) (e : Ending) (w' : World) : Prop :=
  e = .returned (.tuple #[opV A n c l p q t v, .int .i64 (opE l p q t v)]) ∧ Below w.heap.size w w'
theorem opw_no {w w' : World} {A : Option Addr} {n c : Nat} {l : List UInt8} {p q t v er : Int} (h : opE l p q t v = er) (hne : er ≠ 0) (hb : Below w.heap.size w w') :
    OpW w A n c l p q t v (.returned (.tuple #[.agg #[(.slice none 0 0), .int .i64 0, .int .i64 0, .int .i64 0, .int .i64 0, .int .i64 0], .int .i64 er])) w' := by
  unfold OpW opV
  rw [h, if_neg hne]
  exact ⟨rfl, hb⟩
theorem opw_yes {w w' : World} {A : Option Addr} {n c : Nat} {l : List UInt8} {p q t v a b d g k : Int} (h : opE l p q t v = 0) (h1 : kyP l p q t v = a) (h2 : kyQ l p q t v = b) (h3 : kyT l p q t v = d) (h4 : kyV l p q t v = g) (h5 : (lsLen l (kyP l p q t v) (kyQ l p q t v) (kyT l p q t v) (kyV l p q t v) : Int) = k) (hb : Below w.heap.size w w') :
    OpW w A n c l p q t v (.returned (.tuple #[.agg #[(.slice A n c), .int .i64 a, .int .i64 b, .int .i64 d, .int .i64 g, .int .i64 k], .int .i64 0])) w' := by
  unfold OpW opV
  rw [h, if_pos rfl, h5, h1, h2, h3, h4]
  exact ⟨rfl, hb⟩
theorem below_set6 {B : Nat} {a w : World} (g : Nat) (h : Below B a w) (hg : B ≤ g) (v0 v1 v2 v3 v4 v5 : Value) :
    Below B a ((((((w.setCell ⟨g, 0, none⟩ v0).setCell ⟨g, 1, none⟩ v1).setCell ⟨g, 2, none⟩ v2).setCell ⟨g, 3, none⟩ v3).setCell ⟨g, 4, none⟩ v4).setCell ⟨g, 5, none⟩ v5) :=
  (((((h.setCell hg _).setCell hg _).setCell hg _).setCell hg _).setCell hg _).setCell hg _
end Go.Proofs.YtejalfjeihlpeaaGreat

/-
  Package find: the key at an index.
-/
namespace Go.Proofs.YtejalfjeihlpeaaGreat
open Go.RowKit Go.Acc
/-- The key that the element at an index leads to: error, bytes. -/
def rkE (l : List UInt8) (p q t v i : Int) : Int := if atE l p q t v i ≠ 0 then atE l p q t v i else fndE l (atP l p q t v i) (atQ l p q t v i) (atT l p q t v i) (atV l p q t v i) [4]
def rkS (l : List UInt8) (p q t v i : Int) : List UInt8 := if atE l p q t v i ≠ 0 then [] else fndL l (atP l p q t v i) (atQ l p q t v i) (atT l p q t v i) (atV l p q t v i) [4]
def kaE (l : List UInt8) (p q t v i : Int) : Int := if opE l p q t v ≠ 0 then opE l p q t v else rkE l (kyP l p q t v) (kyQ l p q t v) (kyT l p q t v) (kyV l p q t v) i
def kaS (l : List UInt8) (p q t v i : Int) : List UInt8 := if opE l p q t v ≠ 0 then [] else rkS l (kyP l p q t v) (kyQ l p q t v) (kyT l p q t v) (kyV l p q t v) i
def SkW (w : World) (s : List UInt8) (er : Int) (e : Ending) (w' : World) : Prop := e = .returned (.tuple #[.string ⟨s.toArray⟩, .int .i64 er]) ∧ Below w.heap.size w w'
theorem skw_no {w w' : World} {s : List UInt8} {er er' : Int} (h : er = er') (h2 : s = []) (hb : Below w.heap.size w w') : SkW w s er (.returned (.tuple #[.string ⟨#[]⟩, .int .i64 er'])) w' := by
  subst h h2
  exact ⟨rfl, hb⟩
theorem skw_yes {w w' : World} {s s' : List UInt8} {er er' : Int} (h : er = er') (h2 : s = s') (hb : Below w.heap.size w w') : SkW w s er (.returned (.tuple #[.string ⟨s'.toArray⟩, .int .i64 er'])) w' := by
  subst h h2
  exact ⟨rfl, hb⟩
theorem opw_open {w w' : World} {A : Option Addr} {n c : Nat} {l : List UInt8} {p q t v : Int} {e : Ending} (h : OpW w A n c l p q t v e w') :
    ∃ S : Value, ∃ a0 a1 a2 a3 a4 : Int, e = .returned (.tuple #[.agg #[S, .int .i64 a0, .int .i64 a1, .int .i64 a2, .int .i64 a3, .int .i64 a4], .int .i64 (opE l p q t v)]) ∧ S.oneCell' = true ∧
      (opE l p q t v = 0 → S = .slice A n c ∧ a0 = kyP l p q t v ∧ a1 = kyQ l p q t v ∧ a2 = kyT l p q t v ∧ a3 = kyV l p q t v ∧ a4 = (lsLen l (kyP l p q t v) (kyQ l p q t v) (kyT l p q t v) (kyV l p q t v) : Nat)) ∧ Below w.heap.size w w' := by
  obtain ⟨rfl, hb⟩ := h
  unfold opV
  by_cases he : opE l p q t v = 0
  · rw [if_pos he]
    exact ⟨_, _, _, _, _, _, rfl, rfl, fun _ => ⟨rfl, rfl, rfl, rfl, rfl, rfl⟩, hb⟩
  · rw [if_neg he]
    exact ⟨_, _, _, _, _, _, rfl, rfl, fun h => absurd h he, hb⟩
/-! the reference -/
def omR (l : List UInt8) (p q t v : Int) : Value := if opE l p q t v = 0 then .agg #[.int .i64 (kyP l p q t v), .int .i64 (kyQ l p q t v), .int .i64 (kyT l p q t v), .int .i64 (kyV l p q t v)] else .agg #[.int .i64 0, .int .i64 0, .int .i64 0, .int .i64 0]
def omN (l : List UInt8) (p q t v : Int) : Int := if opE l p q t v = 0 then (lsLen l (kyP l p q t v) (kyQ l p q t v) (kyT l p q t v) (kyV l p q t v) : Nat) else 0
def OmW (w : World) (l : List UInt8) (p q t v : Int) (e : Ending) (w' : World) : Prop :=
  e = .returned (.tuple #[omR l p q t v, .int .i64 (omN l p q t v), .int .i64 (opE l p q t v)]) ∧ Below w.heap.size w w'
theorem omw_no {w w' : World} {l : List UInt8} {p q t v er : Int} (h : opE l p q t v = er) (hne : er ≠ 0) (hb : Below w.heap.size w w') :
    OmW w l p q t v (.returned (.tuple #[.agg #[.int .i64 0, .int .i64 0, .int .i64 0, .int .i64 0], .int .i64 0, .int .i64 er])) w' := by
  unfold OmW omR omN
  rw [h, if_neg hne, if_neg hne]
  exact ⟨rfl, hb⟩
theorem omw_yes {w w' : World} {l : List UInt8} {p q t v a b d g k : Int} (h : opE l p q t v = 0) (h1 : kyP l p q t v = a) (h2 : kyQ l p q t v = b) (h3 : kyT l p q t v = d) (h4 : kyV l p q t v = g) (h5 : (lsLen l (kyP l p q t v) (kyQ l p q t v) (kyT l p q t v) (kyV l p q t v) : Int) = k) (hb : Below w.heap.size w w') :
    OmW w l p q t v (.returned (.tuple #[.agg #[.int .i64 a, .int .i64 b, .int .i64 d, .int .i64 g], .int .i64 k, .int .i64 0])) w' := by
  unfold OmW omR omN
  rw [h, if_pos rfl, if_pos rfl, h5, h1, h2, h3, h4]
  exact ⟨rfl, hb⟩
theorem omw_open {w w' : World} {l : List UInt8} {p q t v : Int} {e : Ending} (h : OmW w l p q t v e w') :
    ∃ a0 a1 a2 a3 a4 : Int, e = .returned (.tuple #[.agg #[.int .i64 a0, .int .i64 a1, .int .i64 a2, .int .i64 a3], .int .i64 a4, .int .i64 (opE l p q t v)]) ∧
      (opE l p q t v = 0 → a0 = kyP l p q t v ∧ a1 = kyQ l p q t v ∧ a2 = kyT l p q t v ∧ a3 = kyV l p q t v ∧ a4 = (lsLen l (kyP l p q t v) (kyQ l p q t v) (kyT l p q t v) (kyV l p q t v) : Nat)) ∧ Below w.heap.size w w' := by
  obtain ⟨rfl, hb⟩ := h
  unfold omR omN
  by_cases he : opE l p q t v = 0
  · rw [if_pos he, if_pos he]
    exact ⟨_, _, _, _, _, rfl, fun _ => ⟨rfl, rfl, rfl, rfl, rfl⟩, hb⟩
  · rw [if_neg he, if_neg he]
    exact ⟨_, _, _, _, _, rfl, fun h => absurd h he, hb⟩
end Go.Proofs.YtejalfjeihlpeaaGreat
