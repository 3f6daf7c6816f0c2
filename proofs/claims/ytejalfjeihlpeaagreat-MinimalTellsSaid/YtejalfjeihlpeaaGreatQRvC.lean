/-
  Package accordionref28: a part is inserted in order: the walk.
-/
import Derived.Test.YtejalfjeihlpeaaGreatQRvB
namespace Go.Proofs.YtejalfjeihlpeaaGreat
open Go.RowKit Go.Acc
theorem rins_done {E : RvE} {g0 g : Rows2} {s : CvS} {a b c : Int} {w wv w4 : World} {A4 : Option Addr} {n4 c4 : Nat} {L' : List P3} (h : RvW E g s wv) (ht : RvTo E g0 g w wv) (hb : Below wv.heap.size wv w4) (ho : OwnP w4 wv.heap.size A4 n4 c4 L') (hL : cvSort (s.tell a b c).out = L') :
    RvDone E g0 (s.tell a b c) w (w4.setCell ⟨E.bw, 3, none⟩ (.slice A4 n4 c4)) := by
  obtain ⟨Ah, nh, ch, Al, nl, cl, h1, h2, h3, h4, h5⟩ := h.R
  have ok := h.ok
  have hsz := h.sz
  have hw2 := ok.w2
  have hf : Fr (fun k => k = E.bw) w4 (w4.setCell ⟨E.bw, 3, none⟩ (.slice A4 n4 c4)) := Fr.setCell (S := fun k => k = E.bw) (Fr.refl _ _) (fun _ => rfl) _
  have hA4 : ∀ ad, A4 = some ad → wv.heap.size ≤ ad.block := fun ad had => (ho.addr ad had).2.1
  refine ⟨(g.1, A4.map (·.block)), ⟨ok, ?_, ⟨Ah, nh, ch, A4, n4, c4, ?_, ?_, ?_, h4, rfl⟩, ?_⟩, ht.trans ⟨?_, ?_⟩⟩
  · refine (h.b.pure hb).fr hf (fun ad had e => ?_)
    have := ok.hA ad had
    have := ok.w0
    omega
  · rw [tell_left]
    exact (h1.pure hb).set_ 3 _
  · rw [tell_had]
    refine (h2.pure hb).fr hf (fun ad had e => ?_)
    have := (h2.addr ad had).2.1
    have e : ad.block = E.bw := e
    omega
  · rw [hL]
    refine (ho.rebase hsz).fr hf (fun ad had e => ?_)
    have h8 := hA4 ad had
    have e : ad.block = E.bw := e
    omega
  · exact Nat.le_trans hsz (Nat.le_trans hb.size hf.size)
  · exact (Fr.of_below hb _).trans hf (fun k _ e hF => hF.1 e)
  · intro k hk hF
    refine ⟨hF.1, hF.2.1, fun e => ?_⟩
    cases A4 with
    | none => cases e
    | some ad =>
      injection e with e
      have h9 := hA4 ad rfl
      have e : ad.block = k := e
      omega
theorem tell_same {E : RvE} {g : Rows2} {s : CvS} {a b c : Int} {w : World} (h : RvW E g s w) (hs : cvSort (s.tell a b c).out = cvSort s.out) : RvW E g (s.tell a b c) w := by
  obtain ⟨Ah, nh, ch, Al, nl, cl, h1, h2, h3, h4, h5⟩ := h.R
  refine ⟨h.ok, h.b, ⟨Ah, nh, ch, Al, nl, cl, ?_, ?_, ?_, h4, h5⟩, h.sz⟩
  · rw [tell_left]; exact h1
  · rw [tell_had]; exact h2
  · rw [hs]; exact h3
set_option maxRecDepth 100000 in
set_option maxHeartbeats 4000000 in
theorem rpart_in (E : RvE) (g : Rows2) (s : CvS) (a b c : Int) (w : World) (h : RvW E g s w) (hab : a ≤ b) (hs : s.out.length ≤ 1073741824) (hmid : ∃ y ∈ cvSort s.out, ¬ LtP y (a, b, c)) :
    Calls Tryz.prog 33 #[.pointer (some ⟨E.bw, 0, none⟩), .int .i64 a, .int .i64 b, .int .i64 c] w fun e w' => e = .returned (.tuple #[]) ∧ RvDone E g (s.tell a b c) w w' := by
  have HW := Lib.hid (h.alloc (.cells #[.int .i64 a, .int .i64 b, .int .i64 c] 57))
  have HX := Lib.hid (h.lone 57 #[.int .i64 a, .int .i64 b, .int .i64 c])
  have HT := Lib.hid ((RvTo.refl E g w).alloc (.cells #[.int .i64 a, .int .i64 b, .int .i64 c] 57))
  obtain ⟨L, hL⟩ : ∃ L, cvSort s.out = L := ⟨_, rfl⟩
  have hll := cvSort_len s.out
  rw [hL] at hll hmid
  have HMID := Lib.hid hmid
  clear hmid
  obtain ⟨Ah, nh, ch, Al, nl, cl, h1, h2, h3, h4, h5⟩ := HW.out.R
  rw [hL] at h3
  have HBk := Lib.hid h1
  have HH := Lib.hid h2
  have HL := Lib.hid h3
  have HG := Lib.hid (And.intro h4 h5)
  have hnl : L.length = nl := h3.1
  have hcap := h3.cap.1
  have HLE := Lib.hid hL
  have HLN := Lib.hid hnl
  have hnb : nl ≤ 1073741824 := by omega
  clear h h1 h2 h3 h4 h5 hL hll hnl
  go_enter Tryz.func33, Tryz.ntmps33
  go_upto_region 1 with fail
  generalize w.alloc (.cells #[.int .i64 a, .int .i64 b, .int .i64 c] 57) = w1 at HW HX HT HBk HH HL ⊢
  generalize w.heap.size = bx at HX ⊢
  go_wp2_with fail
  go_loopw [9] (fun i wr => ∃ k : Nat, k ≤ nl ∧ i = .int .i64 k ∧ Below w1.heap.size w1 wr ∧ ∀ j y, j < k → L[j]? = some y → LtP y (a, b, c)) (fun i _ => nl - (intOf i).toNat)
  case atStart => exact ⟨0, by omega, rfl, Below.refl _ _, fun j y hj => absurd hj (Nat.not_lt_zero _)⟩
  case round =>
    obtain ⟨k, hk, rfl, hb, hall⟩ := hrel
    replace HW := Lib.hid (HW.out.pure hb)
    replace HX := Lib.hid (HX.out.pure hb)
    replace HT := Lib.hid (HT.out.below hb)
    replace HBk := Lib.hid (HBk.out.pure hb)
    replace HH := Lib.hid (HH.out.pure hb)
    replace HL := Lib.hid (HL.out.pure hb)
    have HB := Lib.hid hb
    have HALL := Lib.hid hall
    clear hb hall
    have c3 : _ = some (Value.slice Al nl cl) := HBk.out.cell 3; have x0 : _ = some (Value.int .i64 a) := HX.out.1.cell 0; have x1 : _ = some (Value.int .i64 b) := HX.out.1.cell 1; have x2 : _ = some (Value.int .i64 c) := HX.out.1.cell 2
    by_cases hkn : k < nl
    · obtain ⟨b2, o2, e2, h2⟩ := isp_at HL.out.is hkn
      subst e2
      obtain ⟨⟨x, y, z⟩, hx⟩ : ∃ x, L[k]? = some x := ⟨_, List.getElem?_eq_getElem (by rw [HLN.out]; exact hkn)⟩
      obtain ⟨a0, a1, a2⟩ := h2 x y z hx
      obtain ⟨q, hq⟩ : ∃ q, decide (LtP (x, y, z) (a, b, c)) = q := ⟨_, rfl⟩
      have HQ := Lib.hid hq
      have HXX := Lib.hid hx
      have hk0 : (0 : Int) ≤ k := by omega
      have hkI : (k : Int) < nl := by omega
      have hwk : IntKind.i64.wrap ((k : Int) + 1) = (k : Int) + 1 := IntWalk.i64_in _ (by omega)
      clear h2 hx hq
      obtain ⟨wz, rfl⟩ : ∃ wo : World, wo = wr := ⟨_, rfl⟩
      go_wp2_with fail
      go_region_held3 (fun w' => w'.cell? ⟨E.bw, 3, none⟩ = some (.slice (some ⟨b2, o2, none⟩) nl cl) ∧ (w'.cell? ⟨bx, 0, none⟩ = some (.int .i64 a) ∧ w'.cell? ⟨bx, 1, none⟩ = some (.int .i64 b) ∧ w'.cell? ⟨bx, 2, none⟩ = some (.int .i64 c)) ∧ (w'.cell? ⟨b2, o2 + k * 3, none⟩ = some (.int .i64 x) ∧ w'.cell? ⟨b2, o2 + k * 3 + 1, none⟩ = some (.int .i64 y) ∧ w'.cell? ⟨b2, o2 + k * 3 + 2, none⟩ = some (.int .i64 z)))
        (first | with_reducible exact ⟨c3, ⟨x0, x1, x2⟩, a0, a1, a2⟩ | with_reducible exact ⟨ldrew c3, ⟨ldrew x0, ldrew x1, ldrew x2⟩, ldrew a0, ldrew a1, ldrew a2⟩)
        (first | (go_at_call 62; (with_reducible refine (rless_is x y z a b c q _ HQ.out).mono ?_); rintro e w5 ⟨rfl, hb⟩; have HB5 := Lib.hid (pure_trans (below_drew wz) hb); replace c3 := cell_pure hb (ldrew c3); replace x0 := cell_pure hb (ldrew x0); replace x1 := cell_pure hb (ldrew x1); replace x2 := cell_pure hb (ldrew x2); replace a0 := cell_pure hb (ldrew a0); replace a1 := cell_pure hb (ldrew a1); replace a2 := cell_pure hb (ldrew a2); clear hb))
      cases q with
      | true =>
        clear c3 x0 x1 x2 a0 a1 a2
        go_wp2_with fail
        go_roundw
        case rel =>
          refine ⟨k + 1, by omega, by go_num, pure_below HB.out HB5.out, fun j y' hj hy => ?_⟩
          by_cases e : j = k
          · subst e
            rw [HXX.out] at hy
            injection hy with hy
            subst hy
            exact of_decide_eq_true HQ.out
          · exact HALL.out j y' (by omega) hy
        case measure => simp [intOf]; omega
      | false =>
        have hnot := of_decide_eq_false HQ.out
        have HNOT := Lib.hid hnot
        clear hnot
        replace HW := Lib.hid (HW.out.pure HB5.out)
        replace HX := Lib.hid (HX.out.pure HB5.out)
        replace HT := Lib.hid (HT.out.below HB5.out)
        replace HBk := Lib.hid (HBk.out.pure HB5.out)
        replace HH := Lib.hid (HH.out.pure HB5.out)
        replace HL := Lib.hid (HL.out.pure HB5.out)
        go_wp2_with fail
        clear HB HB5
        generalize w5 = wv at HW HX HT HBk HH HL c3 x0 x1 x2 a0 a1 a2 ⊢
        by_cases hlt : a < b
        · have e1 : (a == b) = false := beq_eq_false_iff_ne.mpr (by omega)
          by_cases hxx : (x, y, z) = (a, b, c)
          · have heq := part_eql (x, y, z) (a, b, c) true (decide_eq_true hxx)
            have hsame : s.tell a b c = { s with out := s.out ++ [(a, b, c)] } := if_pos hlt
            have hL2 : cvSort (s.tell a b c).out = cvSort s.out := by
              rw [tell_sort s a b c hlt, HLE.out]
              exact ins_same _ _ k HALL.out (by rw [HXX.out, hxx])
            have HSA := Lib.hid (And.intro hsame hL2)
            clear hxx hsame hL2
            go_quiet (fail)
            go_wp2_with fail
            have HD := Lib.hid (below_drewN (Below.refl wv.heap.size wv) nq)
            refine bodyPost_ret (results_none rfl _ _ _) rfl ?_
            exact ⟨rfl, g, tell_same (HW.out.pure HD.out) HSA.out.2, HT.out.below HD.out⟩
          · have heq := part_eql (x, y, z) (a, b, c) false (decide_eq_false hxx)
            have hL2 : cvSort (s.tell a b c).out = L.take k ++ [(a, b, c)] ++ L.drop k := by
              rw [tell_sort s a b c hlt, HLE.out]
              refine ins_at _ _ k (by rw [HLN.out]; exact hk) HALL.out (fun y' hy => ?_)
              rw [HXX.out] at hy
              injection hy with hy
              subst hy
              exact ⟨HNOT.out, hxx⟩
            have HSA := Lib.hid hL2
            clear hxx hL2
            go_quiet (fail)
            have hcut := cutp_to (some ⟨b2, o2, none⟩) nl cl k (by omega)
            obtain ⟨X, hX1, hX2⟩ := cutp_from (some ⟨b2, o2, none⟩) nl cl k hk hcap
            have HX2 := Lib.hid hX2
            clear hX2
            go_wp2_with fail
            replace HW := Lib.hid (HW.out.pure (below_drewN (Below.refl _ _) nq))
            replace HX := Lib.hid (HX.out.pure (below_drewN (Below.refl _ _) nq))
            replace HT := Lib.hid (HT.out.below (below_drewN (Below.refl _ _) nq))
            replace HBk := Lib.hid (HBk.out.pure (below_drewN (Below.refl _ _) nq))
            replace HH := Lib.hid (HH.out.pure (below_drewN (Below.refl _ _) nq))
            replace HL := Lib.hid (HL.out.pure (below_drewN (Below.refl _ _) nq))
            clear c3 x0 x1 x2
            generalize wv.drewN nq = wu at HW HX HT HBk HH HL ⊢
            have c3 : _ = some (Value.slice (some ⟨b2, o2, none⟩) nl cl) := HBk.out.cell 3; have x0 : _ = some (Value.int .i64 a) := HX.out.1.cell 0; have x1 : _ = some (Value.int .i64 b) := HX.out.1.cell 1; have x2 : _ = some (Value.int .i64 c) := HX.out.1.cell 2
            obtain ⟨wd, hwd⟩ : ∃ wd, wd = wu.drew := ⟨_, rfl⟩
            have HBD := Lib.hid (show Below wu.heap.size wu wd by rw [hwd]; exact below_drew wu)
            have IL0 := Lib.hid ((HL.out.is.take pc_len hk).pure HBD.out)
            have IL1 := Lib.hid (IL0.out.alloc (.cells #[.int .i64 a, .int .i64 b, .int .i64 c] 57))
            have NB1 := Lib.hid (isp_lit wd a b c)
            subst hwd
            have k3 := fun o => lalloc o c3
            have k0 := fun o => lalloc o x0
            have k1 := fun o => lalloc o x1
            have k2 := fun o => lalloc o x2
            go_region_law (first
              | (refine step_appP rfl (.tmp 59) (.tmp 65) rfl wu.heap.size none 0 0 [] rfl (Own.nil _ _) (some ⟨b2, o2, none⟩) k cl (L.take k) rfl IL0.out (by omega) (Nat.le_refl wu.heap.size) ?_; intro A2 c2' w2 hown hfr; have HP2 := Lib.hid (show OwnP w2 wu.heap.size A2 k c2' (L.take k) by simpa using hown); have HB2 := Lib.hid (below_fr HBD.out hfr (fun j ⟨ad, e, _⟩ => by cases e)); have c3_2 := cell_pure HB2.out c3; have x0_2 := cell_pure HB2.out x0; have x1_2 := cell_pure HB2.out x1; have x2_2 := cell_pure HB2.out x2; have k3_2 := fun o => lalloc o c3_2; simp only [Nat.zero_add]; clear hown hfr)
              | (refine step_appP rfl (.tmp 59) (.tmp 65) rfl wu.heap.size none 0 0 [] rfl (Own.nil _ _) (some ⟨b2, o2, none⟩) k cl (L.take k) rfl IL1.out (by omega) (show wu.heap.size ≤ (wu.drew.alloc (.cells #[.int .i64 a, .int .i64 b, .int .i64 c] 57)).heap.size from (HBD.out.alloc HBD.out.size (.cells #[.int .i64 a, .int .i64 b, .int .i64 c] 57)).size) ?_; intro A2 c2' w2 hown hfr; have HP2 := Lib.hid (show OwnP w2 wu.heap.size A2 k c2' (L.take k) by simpa using hown); have HB2 := Lib.hid (below_fr (HBD.out.alloc HBD.out.size (.cells #[.int .i64 a, .int .i64 b, .int .i64 c] 57)) hfr (fun j ⟨ad, e, _⟩ => by cases e)); have HN2 := Lib.hid (NB1.out.fr hfr (fun ad e ⟨ad', e', _⟩ => by cases e')); have c3_2 := cell_pure HB2.out c3; have x0_2 := cell_pure HB2.out x0; have x1_2 := cell_pure HB2.out x1; have x2_2 := cell_pure HB2.out x2; have k3_2 := fun o => lalloc o c3_2; simp only [Nat.zero_add]; clear hown hfr)
              | (refine step_appP rfl (.tmp 66) (.tmp 68) rfl wu.heap.size A2 k c2' (L.take k) rfl (HP2.out.pure ((Below.refl _ _).alloc (Nat.le_refl _) (.cells #[.int .i64 a, .int .i64 b, .int .i64 c] 57))) (some ⟨w2.heap.size, 0, none⟩) 1 1 [(a, b, c)] rfl (isp_lit w2 a b c) (by omega) (HB2.out.alloc HB2.out.size (.cells #[.int .i64 a, .int .i64 b, .int .i64 c] 57)).size ?_; intro A3 c3' w3 hown hfr; have HP3 := Lib.hid hown; have HB3 := Lib.hid (below_fr (HB2.out.alloc HB2.out.size (.cells #[.int .i64 a, .int .i64 b, .int .i64 c] 57)) hfr (by rintro j ⟨ad, e, rfl⟩; exact (HP2.out.addr ad e).2.1)); have c3_3 := cell_pure HB3.out c3; clear hown hfr)
              | (refine step_appP rfl (.tmp 66) (.tmp 68) rfl wu.heap.size A2 k c2' (L.take k) rfl HP2.out (some ⟨wu.heap.size, 0, none⟩) 1 1 [(a, b, c)] rfl HN2.out (by omega) HB2.out.size ?_; intro A3 c3' w3 hown hfr; have HP3 := Lib.hid hown; have HB3 := Lib.hid (below_fr HB2.out hfr (by rintro j ⟨ad, e, rfl⟩; exact (HP2.out.addr ad e).2.1)); have c3_3 := cell_pure HB3.out c3; clear hown hfr)
              | (refine step_appP rfl (.tmp 69) (.tmp 75) rfl wu.heap.size A3 (k + 1) c3' (L.take k ++ [(a, b, c)]) rfl HP3.out X (nl - k) (cl - k) (L.drop k) rfl (HX2.out _ _ (HL.out.is.pure HB3.out)) (by omega) HB3.out.size ?_; intro A4 c4 w4 hown hfr; have HP4 := Lib.hid hown; have HB4 := Lib.hid (below_fr HB3.out hfr (by rintro j ⟨ad, e, rfl⟩; exact (HP3.out.addr ad e).2.1)); have c3_4 := cell_pure HB4.out c3; have f3_4 := (HBk.out.pure HB4.out).frozen 3; clear hown hfr))
            all_goals
              go_wp2_with fail
              go_end0
              exact ⟨rfl, rins_done HW.out HT.out HB4.out HP4.out HSA.out⟩
        · obtain rfl : a = b := by omega
          go_quiet (fail)
          go_wp2_with fail
          have HD := Lib.hid (below_drewN (Below.refl wv.heap.size wv) nq)
          refine bodyPost_ret (results_none rfl _ _ _) rfl ?_
          have hno : s.tell a a c = s := if_neg (by omega)
          rw [hno]
          exact ⟨rfl, g, HW.out.pure HD.out, HT.out.below HD.out⟩
    · obtain ⟨y, hy, hn⟩ := HMID.out
      obtain ⟨j, hj, e⟩ := List.mem_iff_getElem.1 hy
      exact absurd (HALL.out j y (by have := HLN.out; omega) (by rw [List.getElem?_eq_getElem hj, e])) hn
end Go.Proofs.YtejalfjeihlpeaaGreat
