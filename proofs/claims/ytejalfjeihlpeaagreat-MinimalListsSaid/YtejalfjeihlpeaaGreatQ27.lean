/-
  Package cover: a visit.
  The sort of a slice of parts and cmp.Compare, from the library.
-/
import Derived.Test.YtejalfjeihlpeaaGreatQ26
import Derived.Shelf.SlSortCmp.WholeK
import Derived.Shelf.SlicesG.Cmp
import Derived.Ground.SlsfProg
import Derived.Ground.SlgcProg
import Derived.Ground.NamesProg
namespace Go.Proofs.YtejalfjeihlpeaaGreat
open Go.RowKit Go.Acc
theorem burn_cv {E : CvE} {g : Option Nat} {s : CvS} {w : World} (h : CvW E g s w) {x : Int} (hx : s.left - 1 = x) : CvW E g s.burn (w.setCell ⟨E.bw, 1, none⟩ (.int .i64 x)) ∧ CvTo E g g w (w.setCell ⟨E.bw, 1, none⟩ (.int .i64 x)) := by
  subst hx
  have hf : Fr (fun k => k = E.bw) w (w.setCell ⟨E.bw, 1, none⟩ (.int .i64 (s.left - 1))) := Fr.setCell (S := fun k => k = E.bw) (Fr.refl _ _) (fun _ => rfl) _
  have ok := h.ok
  refine ⟨⟨ok, h.b.fr hf ?_, h.W.set_ 1 _, h.M.fr hf ok.mw, h.O.fr hf ok.lw ?_, Nat.le_trans h.sz hf.size⟩, hf.mono ?_, fun _ _ h => h⟩
  · intro ad had e
    have := ok.hA ad had
    have := ok.w0
    omega
  · intro k hk e
    have := (h.O.row k hk).1
    have := ok.w2
    omega
  · rintro k _ rfl hF
    exact hF.2.2.1 rfl
theorem see_cv {E : CvE} {g : Option Nat} {s : CvS} {w w' : World} (h : CvW E g s w) (x : P3) (hM : MapS w' E.bm (s.had ++ [x])) (hf : Fr (fun k => k = E.bm) w w') : CvW E g (s.see x) w' ∧ CvTo E g g w w' := by
  have ok := h.ok
  refine ⟨⟨ok, h.b.fr hf ?_, h.W.fr hf (Ne.symm ok.mw), hM, h.O.fr hf ok.lm ?_, Nat.le_trans h.sz hf.size⟩, hf.mono ?_, fun _ _ h => h⟩
  · intro ad had e
    have := ok.hA ad had
    have := ok.m0
    omega
  · intro k hk e
    have := (h.O.row k hk).1
    have := ok.m2
    omega
  · rintro k _ rfl hF
    exact hF.2.1 rfl
theorem target_is (A : Option Addr) (n c : Nat) (p q t v a er : Int) (l : List UInt8) (w : World) (hl : IsB w A n l) (hc : n ≤ c) (hn : n ≤ 1099511627776) (h1 : tgt l p q t v = a) (h2 : tgtE l p q t v = er) :
    Calls Tryz.prog 53 #[.slice A n c, .agg #[.int .i64 p, .int .i64 q, .int .i64 t, .int .i64 v]] w fun e w' => e = .returned (.tuple #[.int .i64 a, .int .i64 er]) ∧ Below w.heap.size w w' := by
  subst h1 h2
  exact target_spec A n c p q t v l w hl hc (by omega)
theorem inline_is (t : Int) (b : Bool) (w : World) (h : inlineT t = b) : Calls Tryz.prog 52 #[.int .i64 t] w fun e w' => e = .returned (.bool b) ∧ Below w.heap.size w w' := by
  subst h
  exact inline_spec t w
set_option maxRecDepth 100000 in
set_option maxHeartbeats 2000000 in
theorem comes_spec (E : CvE) : ∀ d, ComesAt E (cvCome E.l d) d
  | 0 => fun g s p q t v w h hd hs hr => absurd hd (Nat.not_lt_zero _)
  | d + 1 => fun g s p q t v w h hd hs hr => by
    have ih := comes_spec E d
    have HIH := Lib.hid ih
    have HC := Lib.hid (h.alloc (.cells #[.int .i64 p, .int .i64 q, .int .i64 t, .int .i64 v] 48))
    have HX := Lib.hid (h.lone 48 #[.int .i64 p, .int .i64 q, .int .i64 t, .int .i64 v])
    have HB := Lib.hid ((CvTo.refl E g w).alloc (.cells #[.int .i64 p, .int .i64 q, .int .i64 t, .int .i64 v] 48))
    have hcc := h.ok.hc
    have hnn := h.ok.hn
    have hlen := h.len
    obtain ⟨hp0, hq1, hq8, hpq⟩ := hr
    simp only at hp0 hq1 hq8 hpq
    clear ih h
    have hleft : 8 * s.left.toNat ≤ 900000000 := by unfold CvS.size at hs; omega
    obtain ⟨c0, c1, c2, c3⟩ := HC.out.cells; have x0 := cell0 HX.out.1; have x1 := cell1 HX.out.1; have x2 := cell2 HX.out.1; have x3 := cell3 HX.out.1
    by_cases hl : s.left < 1
    · have hR : cvCome E.l (d + 1) ⟨p, q, t, v⟩ s = (s, 260) := by unfold cvCome; rw [if_pos hl]
      have HR := Lib.hid hR
      clear hR
      go_enter Tryz.func27, Tryz.ntmps27
      go_wp2_with fail
      go_ret
      rw [HR.out]
      exact ⟨rfl, _, HC.out, HB.out⟩
    · have hwr : IntKind.i64.wrap (s.left - 1) = s.left - 1 := IntWalk.i64_in _ (by omega)
      have hwq : IntKind.i64.wrap (p + q) = p + q := IntWalk.i64_in _ (by omega)
      have hsb : s.burn.size + 8 = s.size := by unfold CvS.size CvS.burn; simp only; omega
      have hst := tell_size s.burn p (p + q) (cvOwn t)
      have hstl := tell_left s.burn p (p + q) (cvOwn t)
      have HL := Lib.hid (show 1 ≤ s.left by omega)
      have f1 := HC.out.W.frozen 1
      have hbc := burn_cv HC.out (x := s.left - 1) rfl
      have HBC := Lib.hid hbc
      clear hbc
      go_enter Tryz.func27, Tryz.ntmps27
      go_upto_region 4 with fail
      replace HC := Lib.hid HBC.out.1
      replace HX := Lib.hid (HX.out.to HBC.out.2)
      replace HB := Lib.hid (HB.out.trans HBC.out.2)
      clear HBC f1
      generalize (w.alloc (.cells #[.int .i64 p, .int .i64 q, .int .i64 t, .int .i64 v] 48)).setCell ⟨E.bw, 1, none⟩ (.int .i64 (s.left - 1)) = w1 at HC HX HB ⊢
      clear c0 c1 c2 c3 x0 x1 x2 x3
      obtain ⟨c0, c1, c2, c3⟩ := HC.out.cells; have x0 := cell0 HX.out.1; have x1 := cell1 HX.out.1; have x2 := cell2 HX.out.1; have x3 := cell3 HX.out.1
      go_region_held3 (fun w' => w'.cell? ⟨E.bw, 0, none⟩ = some (.slice E.A E.n E.c) ∧ w'.cell? ⟨E.bw, 3, none⟩ = some (.func (.func 26) #[] #[.pointer (some ⟨E.bl, 0, none⟩)]) ∧ (w'.cell? ⟨w.heap.size, 0, none⟩ = some (.int .i64 p) ∧ w'.cell? ⟨w.heap.size, 1, none⟩ = some (.int .i64 q) ∧ w'.cell? ⟨w.heap.size, 2, none⟩ = some (.int .i64 t) ∧ w'.cell? ⟨w.heap.size, 3, none⟩ = some (.int .i64 v))) (first | with_reducible exact ⟨c0, c3, x0, x1, x2, x3⟩ | with_reducible exact ⟨ldrew_ c0, ldrew_ c3, ldrew_ x0, ldrew_ x1, ldrew_ x2, ldrew_ x3⟩) (first | (go_at_call 51; (with_reducible refine (own_spec t _).mono ?_); rintro e w2 ⟨rfl, hb⟩; replace HB := Lib.hid (HB.out.drew.below hb); replace HC := Lib.hid (HC.out.drew.pure hb); replace HX := Lib.hid (HX.out.drew.pure hb); clear c0 c1 c2 c3 x0 x1 x2 x3; clear hb; obtain ⟨c0, c1, c2, c3⟩ := HC.out.cells; have x0 := cell0 HX.out.1; have x1 := cell1 HX.out.1; have x2 := cell2 HX.out.1; have x3 := cell3 HX.out.1) | (go_at_call 26; (with_reducible refine (tell_cv p (p + q) (cvOwn t) HC.out (by have := size_out s.burn; omega)).mono ?_); rintro e w3 ⟨rfl, g3, hC3, hT3⟩; replace HB := Lib.hid (HB.out.trans hT3); replace HX := Lib.hid (HX.out.to hT3); replace HC := Lib.hid hC3; clear c0 c1 c2 c3 x0 x1 x2 x3; clear hC3 hT3; obtain ⟨c0, c1, c2, c3⟩ := HC.out.cells; have x0 := cell0 HX.out.1; have x1 := cell1 HX.out.1; have x2 := cell2 HX.out.1; have x3 := cell3 HX.out.1))
      obtain ⟨s1, hs1⟩ : ∃ s1, s.burn.tell p (p + q) (cvOwn t) = s1 := ⟨_, rfl⟩
      rw [hs1] at hst hstl
      have hss : cvStart ⟨p, q, t, v⟩ s = s1 := hs1
      have hsl1 : s1.left.toNat < d := by rw [hstl]; unfold CvS.burn; simp only; omega
      have hss1 : s1.size ≤ 899999993 := by omega
      replace HC := Lib.hid (hs1 ▸ HC.out)
      have HSS := Lib.hid hss
      clear hs1 hst hstl hss hl hsb hwr hs hd hleft
      go_wp2_with fail
      go_at_call 52
      by_cases hi : inlineT t = true
      · refine (inline_is t true _ hi).mono ?_
        rintro e w4 ⟨rfl, hb⟩
        replace HB := Lib.hid (HB.out.below hb); replace HC := Lib.hid (HC.out.pure hb); replace HX := Lib.hid (HX.out.pure hb); clear c0 c1 c2 c3 x0 x1 x2 x3; clear hb; obtain ⟨c0, c1, c2, c3⟩ := HC.out.cells; have x0 := cell0 HX.out.1; have x1 := cell1 HX.out.1; have x2 := cell2 HX.out.1; have x3 := cell3 HX.out.1
        have hR : cvCome E.l (d + 1) ⟨p, q, t, v⟩ s = (s1, 0) := by unfold cvCome; rw [if_neg (Int.not_lt.mpr HL.out), if_pos hi, HSS.out]
        have HR := Lib.hid hR
        clear hR hi
        go_wp2_with fail
        go_ret
        rw [HR.out]
        exact ⟨rfl, _, HC.out, HB.out⟩
      · have hi' : inlineT t = false := by simpa using hi
        refine (inline_is t false _ hi').mono ?_
        rintro e w4 ⟨rfl, hb⟩
        replace HB := Lib.hid (HB.out.below hb); replace HC := Lib.hid (HC.out.pure hb); replace HX := Lib.hid (HX.out.pure hb); clear c0 c1 c2 c3 x0 x1 x2 x3; clear hb; obtain ⟨c0, c1, c2, c3⟩ := HC.out.cells; have x0 := cell0 HX.out.1; have x1 := cell1 HX.out.1; have x2 := cell2 HX.out.1; have x3 := cell3 HX.out.1
        have HI := Lib.hid hi
        clear hi hi'
        obtain ⟨a, ha⟩ : ∃ a, tgt E.l p q t v = a := ⟨_, rfl⟩
        obtain ⟨er, her⟩ : ∃ a, tgtE E.l p q t v = a := ⟨_, rfl⟩
        have HA := Lib.hid ha
        have HER := Lib.hid her
        clear ha her
        go_wp2_with fail
        go_region_held3 (fun w' => w'.cell? ⟨E.bw, 0, none⟩ = some (.slice E.A E.n E.c) ∧ w'.cell? ⟨E.bw, 3, none⟩ = some (.func (.func 26) #[] #[.pointer (some ⟨E.bl, 0, none⟩)]) ∧ (w'.cell? ⟨w.heap.size, 0, none⟩ = some (.int .i64 p) ∧ w'.cell? ⟨w.heap.size, 1, none⟩ = some (.int .i64 q) ∧ w'.cell? ⟨w.heap.size, 2, none⟩ = some (.int .i64 t) ∧ w'.cell? ⟨w.heap.size, 3, none⟩ = some (.int .i64 v))) (first | with_reducible exact ⟨c0, c3, x0, x1, x2, x3⟩ | with_reducible exact ⟨ldrew_ c0, ldrew_ c3, ldrew_ x0, ldrew_ x1, ldrew_ x2, ldrew_ x3⟩) (first | (go_at_call 53; (with_reducible refine (target_is E.A E.n E.c p q t v a er E.l _ HC.out.drew.b hcc (by omega) HA.out HER.out).mono ?_); rintro e w5 ⟨rfl, hb⟩; replace HB := Lib.hid (HB.out.drew.below hb); replace HC := Lib.hid (HC.out.drew.pure hb); replace HX := Lib.hid (HX.out.drew.pure hb); clear c0 c1 c2 c3 x0 x1 x2 x3; clear hb; obtain ⟨c0, c1, c2, c3⟩ := HC.out.cells; have x0 := cell0 HX.out.1; have x1 := cell1 HX.out.1; have x2 := cell2 HX.out.1; have x3 := cell3 HX.out.1))
        go_upto_region 9 with fail
        have HY := Lib.hid (Blk.new w5 90 #[.int .i64 a, .int .i64 t, .int .i64 v])
        replace HC := Lib.hid (HC.out.alloc (.cells #[.int .i64 a, .int .i64 t, .int .i64 v] 90))
        replace HX := Lib.hid (HX.out.pure ((Below.refl _ _).alloc (Nat.le_refl _) (.cells #[.int .i64 a, .int .i64 t, .int .i64 v] 90)))
        replace HB := Lib.hid (HB.out.alloc (.cells #[.int .i64 a, .int .i64 t, .int .i64 v] 90))
        have hsp : cvSpot E.l ⟨p, q, t, v⟩ = (a, t, v) := by unfold cvSpot; simp only [HA.out]
        have hun : cvCome E.l (d + 1) ⟨p, q, t, v⟩ s = if er ≠ 0 ∨ (a, t, v) ∈ s1.had then (s1, er) else cvData E.l (cvCome E.l d) ⟨p, q, t, v⟩ (s1.see (a, t, v)) := by
          unfold cvCome
          rw [if_neg (Int.not_lt.mpr HL.out), if_neg HI.out, HSS.out, hsp, HER.out]
          have : s1.had = s.had := by rw [← HSS.out]; exact tell_had _ _ _ _
          rw [this]
        have HUN := Lib.hid hun
        clear hsp hun
        clear c0 c1 c2 c3 x0 x1 x2 x3
        generalize w5.alloc (.cells #[.int .i64 a, .int .i64 t, .int .i64 v] 90) = w6 at HC HX HB HY ⊢
        obtain ⟨c0, c1, c2, c3⟩ := HC.out.cells; have x0 := cell0 HX.out.1; have x1 := cell1 HX.out.1; have x2 := cell2 HX.out.1; have x3 := cell3 HX.out.1
        have y0 : _ = some (Value.int .i64 a) := HY.out.cell 0
        have y1 : _ = some (Value.int .i64 t) := HY.out.cell 1
        have y2 : _ = some (Value.int .i64 v) := HY.out.cell 2
        by_cases her : er = 0
        · subst her
          by_cases hm : (a, t, v) ∈ s1.had
          · have hlk : (Instr.lookup 52 (.map (some E.bm)) (.agg #[.int .i64 a, .int .i64 t, .int .i64 v]) false).run Tryz.prog w6.drew = .ok (.bool true) w6.drew := by
              have := run_lookS Tryz.underlying52 Tryz.underlying90 spot_eq spot_ck spot_zero E.bm s1.had (a, t, v) w6.drew HC.out.drew.M
              rw [decide_eq_true hm] at this
              exact this
            have hr := HUN.out
            rw [if_pos (.inr hm)] at hr
            have HR := Lib.hid hr
            clear hr hm
            go_region_held3 (fun w' => w'.cell? ⟨E.bw, 2, none⟩ = some (.map (some E.bm)) ∧ (w'.cell? ⟨w5.heap.size, 0, none⟩ = some (.int .i64 a) ∧ w'.cell? ⟨w5.heap.size, 1, none⟩ = some (.int .i64 t) ∧ w'.cell? ⟨w5.heap.size, 2, none⟩ = some (.int .i64 v))) (first | with_reducible exact ⟨c2, y0, y1, y2⟩ | with_reducible exact ⟨ldrew_ c2, ldrew_ y0, ldrew_ y1, ldrew_ y2⟩) (fail)
            go_wp2_with fail
            go_ret
            rw [HR.out]
            exact ⟨rfl, _, HC.out.drew, HB.out.drew⟩
          · have hlk : (Instr.lookup 52 (.map (some E.bm)) (.agg #[.int .i64 a, .int .i64 t, .int .i64 v]) false).run Tryz.prog w6.drew = .ok (.bool false) w6.drew := by
              have := run_lookS Tryz.underlying52 Tryz.underlying90 spot_eq spot_ck spot_zero E.bm s1.had (a, t, v) w6.drew HC.out.drew.M
              rw [decide_eq_false hm] at this
              exact this
            have hr := HUN.out
            rw [if_neg (by simp [hm])] at hr
            have HR := Lib.hid hr
            obtain ⟨w7, hins, hM7, hf7, hsz7⟩ := run_insS Tryz.underlying52 Tryz.underlying90 spot_eq spot_ck E.bm s1.had (a, t, v) w6.drew.drew HC.out.drew.drew.M hm
            obtain ⟨hC7, hT7⟩ := see_cv HC.out.drew.drew (a, t, v) hM7 hf7
            have HC7 := Lib.hid hC7
            have HX7 := Lib.hid (HX.out.drew.drew.to hT7)
            have HB7 := Lib.hid (HB.out.drew.drew.trans hT7)
            replace hins : (Instr.mapUpdate 52 (.map (some E.bm)) (.agg #[.int .i64 a, .int .i64 t, .int .i64 v]) (.bool true)).run Tryz.prog w6.drew.drew = .ok () w7 := hins
            have d2 := HC7.out.cells.2.2.1
            have hyb : w5.heap.size ≠ E.bm := by
              have := HY.out
              have h2 := HC.out.M
              rintro e
              obtain ⟨es, k, hb, _⟩ := h2
              rw [← e] at hb
              unfold Blk at this
              rw [this] at hb
              cases hb
            have HY7 := Lib.hid (HY.out.drew.drew.fr hf7 hyb)
            have z0 : _ = some (Value.int .i64 a) := HY7.out.cell 0
            have z1 : _ = some (Value.int .i64 t) := HY7.out.cell 1
            have z2 : _ = some (Value.int .i64 v) := HY7.out.cell 2
            clear hr hm hM7 hf7 hsz7 hC7 hT7 hyb HUN HSS HL HA HER HI
            go_region_held3 (fun w' => w'.cell? ⟨E.bw, 2, none⟩ = some (.map (some E.bm)) ∧ (w'.cell? ⟨w5.heap.size, 0, none⟩ = some (.int .i64 a) ∧ w'.cell? ⟨w5.heap.size, 1, none⟩ = some (.int .i64 t) ∧ w'.cell? ⟨w5.heap.size, 2, none⟩ = some (.int .i64 v))) (first | with_reducible exact ⟨c2, y0, y1, y2⟩ | with_reducible exact ⟨ldrew_ c2, ldrew_ y0, ldrew_ y1, ldrew_ y2⟩) (fail)
            go_wp2_with fail
            go_region_held3 (fun w' => w'.cell? ⟨E.bw, 2, none⟩ = some (.map (some E.bm)) ∧ (w'.cell? ⟨w5.heap.size, 0, none⟩ = some (.int .i64 a) ∧ w'.cell? ⟨w5.heap.size, 1, none⟩ = some (.int .i64 t) ∧ w'.cell? ⟨w5.heap.size, 2, none⟩ = some (.int .i64 v))) (first | with_reducible exact ⟨c2, y0, y1, y2⟩ | with_reducible exact ⟨ldrew_ c2, ldrew_ y0, ldrew_ y1, ldrew_ y2⟩ | with_reducible exact ⟨ldrew_ (ldrew_ c2), ldrew_ (ldrew_ y0), ldrew_ (ldrew_ y1), ldrew_ (ldrew_ y2)⟩ | with_reducible exact ⟨d2, z0, z1, z2⟩) (fail)
            obtain ⟨s2, hs2⟩ : ∃ s2, s1.see (a, t, v) = s2 := ⟨_, rfl⟩
            have hl2 : s2.left.toNat < d := by subst hs2; exact hsl1
            have hz2 : s2.size ≤ 899999993 := by subst hs2; exact hss1
            rw [hs2] at HC7 HR
            clear hs2 hlk hins d2 z0 z1 z2 y0 y1 y2 HY HY7 hsl1 hss1
            clear c0 c1 c2 c3 x0 x1 x2 x3
            clear HC HX HB
            have HC := HC7
            have HX := HX7
            have HB := HB7
            clear HC7 HX7 HB7
            obtain ⟨c0, c1, c2, c3⟩ := HC.out.cells; have x0 := cell0 HX.out.1; have x1 := cell1 HX.out.1; have x2 := cell2 HX.out.1; have x3 := cell3 HX.out.1
            by_cases h4 : t = 4
            · subst h4
              obtain ⟨y, hy⟩ : ∃ y, cvText E.l ⟨p, q, 4, v⟩ s2 = y := ⟨_, rfl⟩
              have hspec := cvtext_spec E _ s2 p q 4 v _ HC.out (by have := size_out s2; omega)
              rw [hy] at hspec
              have hdat := HR.out.trans (show cvData E.l (cvCome E.l d) ⟨p, q, 4, v⟩ s2 = cvText E.l ⟨p, q, 4, v⟩ s2 from rfl)
              rw [hy] at hdat
              have HSP := Lib.hid hspec
              have HDD := Lib.hid hdat
              clear hy hspec hdat
              go_wp2_with fail
              go_at_call 54
              refine HSP.out.mono ?_
              rintro e w8 ⟨rfl, g8, hC8, hT8⟩
              have HC8 := Lib.hid hC8
              have HT8 := Lib.hid hT8
              clear c0 c1 c2 c3 x0 x1 x2 x3
              clear hC8 hT8 HSP
              go_wp2_with fail
              go_ret
              rw [HDD.out]
              exact ⟨rfl, _, HC8.out, HB.out.trans HT8.out⟩
            have e4 : (t == 4) = false := beq_eq_false_iff_ne.mpr h4
            by_cases h5 : t = 5
            · subst h5
              obtain ⟨y, hy⟩ : ∃ y, cvText E.l ⟨p, q, 5, v⟩ s2 = y := ⟨_, rfl⟩
              have hspec := cvtext_spec E _ s2 p q 5 v _ HC.out (by have := size_out s2; omega)
              rw [hy] at hspec
              have hdat := HR.out.trans (show cvData E.l (cvCome E.l d) ⟨p, q, 5, v⟩ s2 = cvText E.l ⟨p, q, 5, v⟩ s2 from rfl)
              rw [hy] at hdat
              have HSP := Lib.hid hspec
              have HDD := Lib.hid hdat
              clear hy hspec hdat
              go_wp2_with fail
              go_at_call 54
              refine HSP.out.mono ?_
              rintro e w8 ⟨rfl, g8, hC8, hT8⟩
              have HC8 := Lib.hid hC8
              have HT8 := Lib.hid hT8
              clear c0 c1 c2 c3 x0 x1 x2 x3
              clear hC8 hT8 HSP
              go_wp2_with fail
              go_ret
              rw [HDD.out]
              exact ⟨rfl, _, HC8.out, HB.out.trans HT8.out⟩
            have e5 : (t == 5) = false := beq_eq_false_iff_ne.mpr h5
            by_cases h25 : t = 25
            · subst h25
              obtain ⟨y, hy⟩ : ∃ y, cvText E.l ⟨p, q, 25, v⟩ s2 = y := ⟨_, rfl⟩
              have hspec := cvtext_spec E _ s2 p q 25 v _ HC.out (by have := size_out s2; omega)
              rw [hy] at hspec
              have hdat := HR.out.trans (show cvData E.l (cvCome E.l d) ⟨p, q, 25, v⟩ s2 = cvText E.l ⟨p, q, 25, v⟩ s2 from rfl)
              rw [hy] at hdat
              have HSP := Lib.hid hspec
              have HDD := Lib.hid hdat
              clear hy hspec hdat
              go_wp2_with fail
              go_at_call 54
              refine HSP.out.mono ?_
              rintro e w8 ⟨rfl, g8, hC8, hT8⟩
              have HC8 := Lib.hid hC8
              have HT8 := Lib.hid hT8
              clear c0 c1 c2 c3 x0 x1 x2 x3
              clear hC8 hT8 HSP
              go_wp2_with fail
              go_ret
              rw [HDD.out]
              exact ⟨rfl, _, HC8.out, HB.out.trans HT8.out⟩
            have e25 : (t == 25) = false := beq_eq_false_iff_ne.mpr h25
            by_cases h6 : t = 6
            · subst h6
              obtain ⟨y, hy⟩ : ∃ y, cvApart E.l ⟨p, q, 6, v⟩ s2 = y := ⟨_, rfl⟩
              have hspec := cvapart_spec E _ s2 p q 6 v _ HC.out (by have := size_out s2; omega)
              rw [hy] at hspec
              have hdat := HR.out.trans (show cvData E.l (cvCome E.l d) ⟨p, q, 6, v⟩ s2 = cvApart E.l ⟨p, q, 6, v⟩ s2 from rfl)
              rw [hy] at hdat
              have HSP := Lib.hid hspec
              have HDD := Lib.hid hdat
              clear hy hspec hdat
              go_wp2_with fail
              go_at_call 55
              refine HSP.out.mono ?_
              rintro e w8 ⟨rfl, g8, hC8, hT8⟩
              have HC8 := Lib.hid hC8
              have HT8 := Lib.hid hT8
              clear c0 c1 c2 c3 x0 x1 x2 x3
              clear hC8 hT8 HSP
              go_wp2_with fail
              go_ret
              rw [HDD.out]
              exact ⟨rfl, _, HC8.out, HB.out.trans HT8.out⟩
            have e6 : (t == 6) = false := beq_eq_false_iff_ne.mpr h6
            by_cases h7 : t = 7
            · subst h7
              obtain ⟨y, hy⟩ : ∃ y, cvApart E.l ⟨p, q, 7, v⟩ s2 = y := ⟨_, rfl⟩
              have hspec := cvapart_spec E _ s2 p q 7 v _ HC.out (by have := size_out s2; omega)
              rw [hy] at hspec
              have hdat := HR.out.trans (show cvData E.l (cvCome E.l d) ⟨p, q, 7, v⟩ s2 = cvApart E.l ⟨p, q, 7, v⟩ s2 from rfl)
              rw [hy] at hdat
              have HSP := Lib.hid hspec
              have HDD := Lib.hid hdat
              clear hy hspec hdat
              go_wp2_with fail
              go_at_call 55
              refine HSP.out.mono ?_
              rintro e w8 ⟨rfl, g8, hC8, hT8⟩
              have HC8 := Lib.hid hC8
              have HT8 := Lib.hid hT8
              clear c0 c1 c2 c3 x0 x1 x2 x3
              clear hC8 hT8 HSP
              go_wp2_with fail
              go_ret
              rw [HDD.out]
              exact ⟨rfl, _, HC8.out, HB.out.trans HT8.out⟩
            have e7 : (t == 7) = false := beq_eq_false_iff_ne.mpr h7
            have hdata : cvData E.l (cvCome E.l d) ⟨p, q, t, v⟩ s2 = cvList E.l (cvCome E.l d) ⟨p, q, t, v⟩ s2 := by
              unfold cvData
              rw [if_neg (by simp [isIn]; omega), if_neg (by simp only; omega)]
            have HDT := Lib.hid hdata
            clear hdata h4 h5 h25 h6 h7
            obtain ⟨y, hy⟩ : ∃ y, cvList E.l (cvCome E.l d) ⟨p, q, t, v⟩ s2 = y := ⟨_, rfl⟩
            have hspec := cvlist_spec E _ d HIH.out (come_goes E.l d) _ s2 p q t v _ HC.out hl2 (by omega)
            rw [hy] at hspec
            have hdat := HR.out.trans (show cvData E.l (cvCome E.l d) ⟨p, q, t, v⟩ s2 = cvList E.l (cvCome E.l d) ⟨p, q, t, v⟩ s2 from HDT.out)
            rw [hy] at hdat
            have HSP := Lib.hid hspec
            have HDD := Lib.hid hdat
            clear hy hspec hdat
            go_wp2_with fail
            go_at_call 56
            refine HSP.out.mono ?_
            rintro e w8 ⟨rfl, g8, hC8, hT8⟩
            have HC8 := Lib.hid hC8
            have HT8 := Lib.hid hT8
            clear c0 c1 c2 c3 x0 x1 x2 x3
            clear hC8 hT8 HSP
            go_wp2_with fail
            go_ret
            rw [HDD.out]
            exact ⟨rfl, _, HC8.out, HB.out.trans HT8.out⟩
        · have hne : (er != 0) = true := by simpa using her
          have hr := HUN.out
          rw [if_pos (.inl her)] at hr
          have HR := Lib.hid hr
          clear hr her
          go_quiet (fail)
          go_wp2_with fail
          go_ret
          rw [HR.out]
          exact ⟨rfl, _, HC.out.pure (below_drewN (Below.refl _ _) _), HB.out.below (below_drewN (Below.refl _ _) _)⟩
end Go.Proofs.YtejalfjeihlpeaaGreat

namespace Go.Proofs.YtejalfjeihlpeaaGreat
open Go.Shelf Go.RowKit Go.Lib Go.Acc
def sortPart_ren : Go.Shelf.Ren := ⟨fun | 6 => 57 | 15 => 95 | 14 => 94 | 28 => 134 | 29 => 46 | 20 => 126 | 21 => 127 | 22 => 128 | 23 => 129 | 24 => 130 | 25 => 131 | 26 => 132 | 27 => 133 | 46 => 149 | 47 => 150 | 48 => 151 | 49 => 152 | 50 => 153 | 57 => 158 | n => n, fun | 22 => 24 | 24 => 57 | 25 => 61 | 3 => 3 | 39 => 84 | 0 => 0 | 53 => 163 | 55 => 38 | 4 => 4 | 46 => 157 | 45 => 156 | 50 => 109 | 5 => 5 | 9 => 9 | 66 => 171 | 70 => 175 | 76 => 179 | 77 => 180 | n => n, fun | n => n⟩
theorem sortPart : Go.Proofs.SlLaysF0.n6 Tryz.prog sortPart_ren := {
  mixed := by kernel_rfl
  f6 := ⟨Tryz.f57.name, by decide, Tryz.func57.trans (congrArg some (by kernel_rfl))⟩
  f14 := ⟨Tryz.f94.name, by decide, Tryz.func94.trans (congrArg some (by kernel_rfl))⟩
  f15 := Tryz.func95.trans (congrArg some (by kernel_rfl))
  f20 := ⟨Tryz.f126.name, by decide, Tryz.func126.trans (congrArg some (by kernel_rfl))⟩
  f21 := ⟨Tryz.f127.name, by decide, Tryz.func127.trans (congrArg some (by kernel_rfl))⟩
  f22 := ⟨Tryz.f128.name, by decide, Tryz.func128.trans (congrArg some (by kernel_rfl))⟩
  f23 := ⟨Tryz.f129.name, by decide, Tryz.func129.trans (congrArg some (by kernel_rfl))⟩
  f24 := ⟨Tryz.f130.name, by decide, Tryz.func130.trans (congrArg some (by kernel_rfl))⟩
  f25 := ⟨Tryz.f131.name, by decide, Tryz.func131.trans (congrArg some (by kernel_rfl))⟩
  f26 := ⟨Tryz.f132.name, by decide, Tryz.func132.trans (congrArg some (by kernel_rfl))⟩
  f27 := ⟨Tryz.f133.name, by decide, Tryz.func133.trans (congrArg some (by kernel_rfl))⟩
  f28 := Tryz.func134.trans (congrArg some (by kernel_rfl))
  f29 := Tryz.func46.trans (congrArg some (by kernel_rfl))
  f46 := ⟨Tryz.f149.name, by decide, Tryz.func149.trans (congrArg some (by kernel_rfl))⟩
  f47 := Tryz.func150.trans (congrArg some (by kernel_rfl))
  f48 := Tryz.func151.trans (congrArg some (by kernel_rfl))
  f49 := ⟨Tryz.f152.name, by decide, Tryz.func152.trans (congrArg some (by kernel_rfl))⟩
  f50 := ⟨Tryz.f153.name, by decide, Tryz.func153.trans (congrArg some (by kernel_rfl))⟩
  f57 := ⟨Tryz.f158.name, by decide, Tryz.func158.trans (congrArg some (by kernel_rfl))⟩
  t0 := Tryz.underlying0
  a0 := Tryz.isAgg0
  z0 := Tryz.sizeOf0
  v0 := Tryz.zeroValue0
  t3 := Tryz.underlying3
  a3 := Tryz.isAgg3
  z3 := Tryz.sizeOf3
  v3 := Tryz.zeroValue3
  t4 := Tryz.underlying4
  a4 := Tryz.isAgg4
  z4 := Tryz.sizeOf4
  v4 := Tryz.zeroValue4
  t5 := Tryz.underlying5
  a5 := Tryz.isAgg5
  z5 := Tryz.sizeOf5
  v5 := Tryz.zeroValue5
  t9 := Tryz.underlying9
  a9 := Tryz.isAgg9
  z9 := Tryz.sizeOf9
  v9 := Tryz.zeroValue9
  t22 := Tryz.underlying24
  a22 := Tryz.isAgg24
  z22 := Tryz.sizeOf24
  v22 := Tryz.zeroValue24
  t25 := Tryz.underlying61
  a25 := Tryz.isAgg61
  z25 := Tryz.sizeOf61
  v25 := Tryz.zeroValue61
  t39 := Tryz.underlying84
  a39 := Tryz.isAgg84
  z39 := Tryz.sizeOf84
  v39 := Tryz.zeroValue84
  t45 := Tryz.underlying156
  a45 := Tryz.isAgg156
  z45 := Tryz.sizeOf156
  v45 := Tryz.zeroValue156
  t46 := Tryz.underlying157
  a46 := Tryz.isAgg157
  z46 := Tryz.sizeOf157
  v46 := Tryz.zeroValue157
  t50 := Tryz.underlying109
  a50 := Tryz.isAgg109
  z50 := Tryz.sizeOf109
  v50 := Tryz.zeroValue109
  t53 := Tryz.underlying163
  a53 := Tryz.isAgg163
  z53 := Tryz.sizeOf163
  v53 := Tryz.zeroValue163
  t55 := Tryz.underlying38
  a55 := Tryz.isAgg38
  z55 := Tryz.sizeOf38
  v55 := Tryz.zeroValue38
  t66 := Tryz.underlying171
  a66 := Tryz.isAgg171
  z66 := Tryz.sizeOf171
  v66 := Tryz.zeroValue171
  t70 := Tryz.underlying175
  a70 := Tryz.isAgg175
  z70 := Tryz.sizeOf175
  v70 := Tryz.zeroValue175
  t76 := Tryz.underlying179
  a76 := Tryz.isAgg179
  z76 := Tryz.sizeOf179
  v76 := Tryz.zeroValue179
  t77 := Tryz.underlying180
  a77 := Tryz.isAgg180
  z77 := Tryz.sizeOf180
  v77 := Tryz.zeroValue180 }
def cmpInt_ren : Go.Shelf.Ren := ⟨fun | 5 => 31 | 7 => 59 | n => n, fun | 22 => 3 | 3 => 3 | 4 => 4 | n => n, fun | n => n⟩
theorem cmpInt : Go.Proofs.SlLaysC2.n5 Tryz.prog cmpInt_ren := {
  mixed := by kernel_rfl
  f5 := ⟨Tryz.f31.name, by decide, Tryz.func31.trans (congrArg some (by kernel_rfl))⟩
  f7 := ⟨Tryz.f59.name, by decide, Tryz.func59.trans (congrArg some (by kernel_rfl))⟩
  t3 := Tryz.underlying3
  a3 := Tryz.isAgg3
  z3 := Tryz.sizeOf3
  v3 := Tryz.zeroValue3
  t4 := Tryz.underlying4
  a4 := Tryz.isAgg4
  z4 := Tryz.sizeOf4
  v4 := Tryz.zeroValue4
  t22 := Tryz.underlying3
  a22 := Tryz.isAgg3
  z22 := Tryz.sizeOf3
  v22 := Tryz.zeroValue3 }
end Go.Proofs.YtejalfjeihlpeaaGreat

