/-
  Package accordionref28: keys, strings, blobs.
-/
import Derived.Test.YtejalfjeihlpeaaGreatQRvCb
import Derived.Test.YtejalfjeihlpeaaGreatQRvD
namespace Go.Proofs.YtejalfjeihlpeaaGreat
open Go.RowKit Go.Acc
theorem rplace_is (A : Option Addr) (n c : Nat) (p q t v a m er : Int) (l : List UInt8) (w : World) (h : IsB w A n l) (hn : n ≤ 1099511627776) (h0 : fndA l p q t v [4, 5, 25] = a) (h1 : ((fndL l p q t v [4, 5, 25]).length : Int) = m) (h2 : fndE l p q t v [4, 5, 25] = er) :
    Calls Tryz.prog 100 #[.slice A n c, .agg #[.int .i64 p, .int .i64 q, .int .i64 t, .int .i64 v]] w fun e w' => e = .returned (.tuple #[.int .i64 a, .int .i64 m, .int .i64 er]) ∧ Below w.heap.size w w' := by
  subst h0 h1 h2
  exact rplace_spec A n c p q t v l w h hn
set_option maxRecDepth 100000 in
set_option maxHeartbeats 2000000 in
theorem rvtext_spec (E : RvE) (g : Rows2) (s : CvS) (p q t v a : Int) (w : World) (h : RvW E g s w) (hs : s.out.length ≤ 1000000000) (ha : tgt E.l p q t v = a) :
    Calls Tryz.prog 67 #[.pointer (some ⟨E.bw, 0, none⟩), .agg #[.int .i64 p, .int .i64 q, .int .i64 t, .int .i64 v], .int .i64 a] w (RvRes E g w (cvText E.l ⟨p, q, t, v⟩ s)) := by
  have HC := Lib.hid (h.alloc (.cells #[.int .i64 p, .int .i64 q, .int .i64 t, .int .i64 v] 48))
  have HX := Lib.hid (h.lone 48 #[.int .i64 p, .int .i64 q, .int .i64 t, .int .i64 v])
  have HB := Lib.hid ((RvTo.refl E g w).alloc (.cells #[.int .i64 p, .int .i64 q, .int .i64 t, .int .i64 v] 48))
  obtain ⟨a', ha'⟩ : ∃ a, fndA E.l p q t v [4, 5, 25] = a := ⟨_, rfl⟩
  obtain ⟨m, hm⟩ : ∃ m : Int, ((fndL E.l p q t v [4, 5, 25]).length : Int) = m := ⟨_, rfl⟩
  obtain ⟨er, he⟩ : ∃ a, fndE E.l p q t v [4, 5, 25] = a := ⟨_, rfl⟩
  have HA0 := Lib.hid ha
  have HAA := Lib.hid ha'
  have HMM := Lib.hid hm
  have HEE := Lib.hid he
  have hnn := h.ok.hn
  have hlen := h.len
  clear h ha ha' hm he
  have c0 := (HC.out).c0; have x0 := cell0 HX.out.1; have x1 := cell1 HX.out.1; have x2 := cell2 HX.out.1; have x3 := cell3 HX.out.1
  go_enter Tryz.func67, Tryz.ntmps67
  go_wp2_with fail
  go_region_held3 (fun w' => w'.cell? ⟨E.bw, 0, none⟩ = some (.slice E.A E.n E.c) ∧ (w'.cell? ⟨w.heap.size, 0, none⟩ = some (.int .i64 p) ∧ w'.cell? ⟨w.heap.size, 1, none⟩ = some (.int .i64 q) ∧ w'.cell? ⟨w.heap.size, 2, none⟩ = some (.int .i64 t) ∧ w'.cell? ⟨w.heap.size, 3, none⟩ = some (.int .i64 v))) (first | with_reducible exact ⟨c0, x0, x1, x2, x3⟩ | with_reducible exact ⟨ldrew_ c0, ldrew_ x0, ldrew_ x1, ldrew_ x2, ldrew_ x3⟩) (first | (go_at_call 100; (with_reducible refine (rplace_is E.A E.n E.c p q t v a' m er E.l _ HC.out.drew.b (by omega) HAA.out HMM.out HEE.out).mono ?_); rintro e w1 ⟨rfl, hb1⟩; replace HB := Lib.hid (HB.out.drew.below hb1); replace HC := Lib.hid (HC.out.drew.pure hb1); replace HX := Lib.hid (HX.out.drew.pure hb1); clear c0 x0 x1 x2 x3; clear hb1; have c0 := (HC.out).c0; have x0 := cell0 HX.out.1; have x1 := cell1 HX.out.1; have x2 := cell2 HX.out.1; have x3 := cell3 HX.out.1))
  by_cases he : er = 0
  · subst he
    obtain ⟨b0, b1, b2, b3, b4, b5⟩ := text_room HEE.out
    rw [HAA.out, HA0.out] at b5
    subst b5
    rw [HAA.out, HMM.out] at b1 b2
    rw [HAA.out] at b0 b3
    have hm0 : 0 ≤ m := by have := HMM.out; omega
    have hmn : a' + m ≤ 4294967296 := by omega
    have hw1 : IntKind.i64.wrap (a' + m) = a' + m := IntWalk.i64_in _ (by omega)
    have hw2 : IntKind.i64.wrap (a' + m + 1) = a' + m + 1 := IntWalk.i64_in _ (by omega)
    have HB3 := Lib.hid b3
    clear b1 b2 hlen b3
    by_cases h4 : t = 4
    · subst h4
      go_wp2_with (go_at_call 33; (with_reducible refine (rpart_spec E _ _ a' (a' + m + 1) 9 _ HC.out (by omega) (by omega)).mono ?_); rintro e w2 ⟨rfl, g2, hC2, hT2⟩; replace HB := Lib.hid (HB.out.trans hT2); replace HX := Lib.hid (HX.out.to hT2); replace HC := Lib.hid hC2; clear c0 x0 x1 x2 x3; clear hC2 hT2; have c0 := (HC.out).c0; have x0 := cell0 HX.out.1; have x1 := cell1 HX.out.1; have x2 := cell2 HX.out.1; have x3 := cell3 HX.out.1)
      go_ret
      have e : cvText E.l ⟨p, q, 4, v⟩ s = (s.tell a' (a' + m + 1) 9, 0) := by
        unfold cvText
        rw [HEE.out, HAA.out, HMM.out]
        rfl
      rw [e]
      exact ⟨rfl, _, HC.out, HB.out⟩
    · have e4 : (t == 4) = false := beq_eq_false_iff_ne.mpr h4
      have s1 := tell_len s (a' - v) a' 6
      have hv1 := HB3.out h4
      have hw : IntKind.i64.wrap (a' - v) = a' - v := IntWalk.i64_in _ (by omega)
      clear HB3
      by_cases h5 : t = 5
      · subst h5
        go_wp2_with (go_at_call 33; (with_reducible refine (rpart_spec E _ _ (a' - v) a' 6 _ HC.out (by omega) (by omega)).mono ?_); rintro e w2 ⟨rfl, g2, hC2, hT2⟩; replace HB := Lib.hid (HB.out.trans hT2); replace HX := Lib.hid (HX.out.to hT2); replace HC := Lib.hid hC2; clear c0 x0 x1 x2 x3; clear hC2 hT2; have c0 := (HC.out).c0; have x0 := cell0 HX.out.1; have x1 := cell1 HX.out.1; have x2 := cell2 HX.out.1; have x3 := cell3 HX.out.1)
        go_wp2_with (go_at_call 33; (with_reducible refine (rpart_spec E _ _ a' (a' + m + 1) 10 _ HC.out (by omega) (by omega)).mono ?_); rintro e w2 ⟨rfl, g2, hC2, hT2⟩; replace HB := Lib.hid (HB.out.trans hT2); replace HX := Lib.hid (HX.out.to hT2); replace HC := Lib.hid hC2; clear c0 x0 x1 x2 x3; clear hC2 hT2; have c0 := (HC.out).c0; have x0 := cell0 HX.out.1; have x1 := cell1 HX.out.1; have x2 := cell2 HX.out.1; have x3 := cell3 HX.out.1)
        go_ret
        have e : cvText E.l ⟨p, q, 5, v⟩ s = ((s.tell (a' - v) a' 6).tell a' (a' + m + 1) 10, 0) := by
          unfold cvText
          rw [HEE.out, HAA.out, HMM.out]
          rfl
        rw [e]
        exact ⟨rfl, _, HC.out, HB.out⟩
      · have e5 : (t == 5) = false := beq_eq_false_iff_ne.mpr h5
        go_wp2_with (go_at_call 33; (with_reducible refine (rpart_spec E _ _ (a' - v) a' 6 _ HC.out (by omega) (by omega)).mono ?_); rintro e w2 ⟨rfl, g2, hC2, hT2⟩; replace HB := Lib.hid (HB.out.trans hT2); replace HX := Lib.hid (HX.out.to hT2); replace HC := Lib.hid hC2; clear c0 x0 x1 x2 x3; clear hC2 hT2; have c0 := (HC.out).c0; have x0 := cell0 HX.out.1; have x1 := cell1 HX.out.1; have x2 := cell2 HX.out.1; have x3 := cell3 HX.out.1)
        go_wp2_with (go_at_call 33; (with_reducible refine (rpart_spec E _ _ a' (a' + m) 11 _ HC.out (by omega) (by omega)).mono ?_); rintro e w2 ⟨rfl, g2, hC2, hT2⟩; replace HB := Lib.hid (HB.out.trans hT2); replace HX := Lib.hid (HX.out.to hT2); replace HC := Lib.hid hC2; clear c0 x0 x1 x2 x3; clear hC2 hT2; have c0 := (HC.out).c0; have x0 := cell0 HX.out.1; have x1 := cell1 HX.out.1; have x2 := cell2 HX.out.1; have x3 := cell3 HX.out.1)
        go_ret
        have e : cvText E.l ⟨p, q, t, v⟩ s = ((s.tell (a' - v) a' 6).tell a' (a' + m) 11, 0) := by
          unfold cvText
          rw [HEE.out, HAA.out, HMM.out]
          simp [h4, h5]
        rw [e]
        exact ⟨rfl, _, HC.out, HB.out⟩
  · have hne : (er != 0) = true := by simpa using he
    have e : cvText E.l ⟨p, q, t, v⟩ s = (s, er) := by
      unfold cvText
      rw [HEE.out, if_pos he]
    have HR := Lib.hid e
    clear e he
    go_wp2_with fail
    go_ret
    rw [HR.out]
    exact ⟨rfl, _, HC.out, HB.out⟩
end Go.Proofs.YtejalfjeihlpeaaGreat
