/-
  ScalarHolds: the document of a number behind some bytes, and its root.
-/
import Derived.Test.YtjhigmgkmmjlfaaGreatQRefJ
import Derived.Test.YtjhigmgkmmjlfaaGreatQShB
namespace Go.Proofs.YtjhigmgkmmjlfaaGreat
open Go.RowKit Go.Acc
/-- The answer of built. -/
def BuiltW (w : World) (k : Int) (neg : Bool) (mag : Nat) (e : Ending) (w' : World) : Prop :=
  ∃ A n c L p q t v, e = .returned (.tuple #[.slice A n c, .agg #[.int .i64 p, .int .i64 q, .int .i64 t, .int .i64 v], .bool true]) ∧ IsB w' A n L ∧ n ≤ c ∧ n ≤ 2097152 ∧ rootR L = (p, q, t, v) ∧ NumF L k neg mag ∧ Below w.heap.size w w'
/-- The reference is laid into the result. -/
theorem built_end {w w4 : World} {A1 : Option Addr} {n : Nat} {L : List UInt8} (rp rq rt rv : Int) (hR : Blk w4 w.heap.size 36 #[.int .i64 0, .int .i64 0, .int .i64 0, .int .i64 0]) (hI : IsB w4 A1 n L) (hA : ∀ ad, A1 = some ad → ¬ ad.block = w.heap.size) (hB : Below w.heap.size w w4) :
    ∃ wF, wF = (((((w4.alloc (.cells #[.int .i64 rp, .int .i64 rq, .int .i64 rt, .int .i64 rv] 36)).setCell ⟨w.heap.size, 0, none⟩ (.int .i64 rp)).setCell ⟨w.heap.size, 1, none⟩ (.int .i64 rq)).setCell ⟨w.heap.size, 2, none⟩ (.int .i64 rt)).setCell ⟨w.heap.size, 3, none⟩ (.int .i64 rv)).drew ∧
      wF.cell? ⟨w.heap.size, 0, none⟩ = some (.int .i64 rp) ∧ wF.cell? ⟨w.heap.size, 1, none⟩ = some (.int .i64 rq) ∧ wF.cell? ⟨w.heap.size, 2, none⟩ = some (.int .i64 rt) ∧ wF.cell? ⟨w.heap.size, 3, none⟩ = some (.int .i64 rv) ∧ IsB wF A1 n L ∧ Below w.heap.size w wF := by
  have h5 := hR.alloc (.cells #[.int .i64 rp, .int .i64 rq, .int .i64 rt, .int .i64 rv] 36)
  have hB5 := hB.alloc hB.size (.cells #[.int .i64 rp, .int .i64 rq, .int .i64 rt, .int .i64 rv] 36)
  have hI5 := hI.alloc (.cells #[.int .i64 rp, .int .i64 rq, .int .i64 rt, .int .i64 rv] 36)
  generalize w4.alloc (.cells #[.int .i64 rp, .int .i64 rq, .int .i64 rt, .int .i64 rv] 36) = w5 at *
  refine ⟨_, rfl, ?_⟩
  have h6 := h5.set_ 0 (.int .i64 rp)
  have b6 := hB5.setCell (p := ⟨w.heap.size, 0, none⟩) (Nat.le_refl _) (.int .i64 rp)
  have i6 := hI5.fr (S := fun k => k = w.heap.size) (Fr.setCell (S := fun k => k = w.heap.size) (p := ⟨w.heap.size, 0, none⟩) (Fr.refl _ w5) (fun _ => rfl) (.int .i64 rp)) hA
  generalize w5.setCell ⟨w.heap.size, 0, none⟩ (.int .i64 rp) = w6 at *
  have h7 := h6.set_ 1 (.int .i64 rq)
  have b7 := b6.setCell (p := ⟨w.heap.size, 1, none⟩) (Nat.le_refl _) (.int .i64 rq)
  have i7 := i6.fr (S := fun k => k = w.heap.size) (Fr.setCell (S := fun k => k = w.heap.size) (p := ⟨w.heap.size, 1, none⟩) (Fr.refl _ w6) (fun _ => rfl) (.int .i64 rq)) hA
  generalize w6.setCell ⟨w.heap.size, 1, none⟩ (.int .i64 rq) = w7 at *
  have h8 := h7.set_ 2 (.int .i64 rt)
  have b8 := b7.setCell (p := ⟨w.heap.size, 2, none⟩) (Nat.le_refl _) (.int .i64 rt)
  have i8 := i7.fr (S := fun k => k = w.heap.size) (Fr.setCell (S := fun k => k = w.heap.size) (p := ⟨w.heap.size, 2, none⟩) (Fr.refl _ w7) (fun _ => rfl) (.int .i64 rt)) hA
  generalize w7.setCell ⟨w.heap.size, 2, none⟩ (.int .i64 rt) = w8 at *
  have h9 := h8.set_ 3 (.int .i64 rv)
  have b9 := b8.setCell (p := ⟨w.heap.size, 3, none⟩) (Nat.le_refl _) (.int .i64 rv)
  have i9 := i8.fr (S := fun k => k = w.heap.size) (Fr.setCell (S := fun k => k = w.heap.size) (p := ⟨w.heap.size, 3, none⟩) (Fr.refl _ w8) (fun _ => rfl) (.int .i64 rv)) hA
  generalize w8.setCell ⟨w.heap.size, 3, none⟩ (.int .i64 rv) = w9 at *
  exact ⟨h9.cell 0, h9.cell 1, h9.cell 2, h9.cell 3, bisb_drew i9, b9.drew⟩
set_option maxRecDepth 100000 in
set_option maxHeartbeats 800000 in
theorem built_3 (u : Nat) (a : Int) (w : World) (_hu : u < 18446744073709551616) : Calls Tryz.prog 29 #[.int .i64 3, .int .u64 (u : Int), .int .i64 a] w (BuiltW w 3 (numNeg 3 (wrap64 (u : Int))) (numMag 3 (wrap64 (u : Int)) (0 : Nat))) := by
  obtain ⟨d, hdl, hd, hF⟩ := build_num (k := 3) (n := (wrap64 (u : Int))) (u := (0 : Nat)) (s := []) 0 (.inr (.inr (.inl ⟨rfl, rfl, rfl⟩))) (by unfold wrap64; omega) (by omega)
  have HD := Lib.hid hd
  have HF := Lib.hid hF
  have HDL := Lib.hid hdl
  clear hd hF hdl
  go_enter Tryz.func29, Tryz.ntmps29
  have HB := Lib.hid (show Below w.heap.size w ((w.alloc (.cells #[.int .i64 0, .int .i64 0, .int .i64 0, .int .i64 0] 36)).alloc (.cells #[.int .i64 3, .int .i64 (wrap64 (u : Int)), .int .u64 ((0 : Nat) : Int), .string ⟨([] : List UInt8).toArray⟩, .slice none 0 0, .slice none 0 0] 26)) from ((Below.refl _ _).alloc (Nat.le_refl _) _).alloc (by simp) _)
  have HR := Lib.hid ((Blk.new w 36 #[.int .i64 0, .int .i64 0, .int .i64 0, .int .i64 0]).alloc (.cells #[.int .i64 3, .int .i64 (wrap64 (u : Int)), .int .u64 ((0 : Nat) : Int), .string ⟨([] : List UInt8).toArray⟩, .slice none 0 0, .slice none 0 0] 26))
  go_wp2_with fail
  go_at_call 12
  refine (HD.out _).mono ?_
  intro e w2 hDoc
  obtain ⟨A, m, c, rfl, hO, hb⟩ := hDoc
  have HOD := Lib.hid hO
  have HML := Lib.hid (show m ≤ 1048576 by rw [← hO.1]; exact HDL.out)
  have HB2 := Lib.hid (pure_below HB.out hb)
  have HR2 := Lib.hid (HR.out.pure hb)
  clear hb hO HB HR
  obtain ⟨q, hq⟩ : ∃ q : Nat, a % 4 = (q : Int) := ⟨(a % 4).toNat, by omega⟩
  have hq4 : q < 4 := by omega
  obtain ⟨N, hN⟩ : ∃ N : Nat, 8 * q = N := ⟨_, rfl⟩
  have HN8 := Lib.hid (show N % 8 = 0 by omega)
  have HN32 := Lib.hid (show N ≤ 32 by omega)
  have e1 : 8 * (q : Int) = (N : Int) := by omega
  have hN0 : (0 : Int) ≤ (N : Int) := by omega
  have hN1 : (N : Int) ≤ 32 := by omega
  obtain ⟨Z, hZ1, hZ2, hmk⟩ := make_b N (by omega)
  have HZ2 := Lib.hid hZ2
  clear hZ1 hZ2
  have HBR := Lib.hid (show Calls Tryz.prog 14 #[.int .i64 a, .int .i64 4] w2 fun e w' => e = .returned (.int .i64 (q : Int)) ∧ w2 = w' by rw [← hq]; exact bring_spec a 4 w2 (by omega) (by omega))
  clear hq hq4 hN
  go_wp2_with fail
  go_at_call 14
  refine HBR.out.mono ?_
  rintro e w' ⟨rfl, rfl⟩
  have hml := HML.out
  go_wp2_with (at_builtin; refine wpl_app _ rfl (.tmp 45) (.tmp 46) _ rfl 5 _ 1 1 Tryz.underlying29 info_b rfl (by omega) bc_len bc_one _ _ _ _ _ rfl (ownb_lit w2 Z N w.heap.size (List.replicate N (0 : UInt8)) (Nat.le_trans HB2.out.size (Nat.le_refl _)) (by simp) (by omega) HZ2.out) _ _ _ _ rfl (HOD.out.is.alloc _) (by omega) (by have := HB2.out.size; simp; omega) ?_; intro A1 c1 w3 hown1 hfr1 hat1)
  have HO3 := Lib.hid hown1
  have HNB := Lib.hid (show w.heap.size ≠ w2.heap.size from Nat.ne_of_lt HR2.out.lt)
  have HR3 := Lib.hid ((HR2.out.alloc (.cells Z 5)).fr hfr1 (by rintro ⟨ad, h, h'⟩; injection h with h; subst h; exact HNB.out h'))
  have HB3 := Lib.hid ((HB2.out.alloc HB2.out.size (.cells Z 5)).trans (hfr1.belowB (fun k hk ⟨ad, h, h'⟩ => by injection h with h; subst h; have h2 := HB2.out.size; have h3 : k = w2.heap.size := h'; omega) (by have h2 := HB2.out.size; simp; omega)))
  obtain ⟨rp, rq, rt, rv, hr⟩ := quad (rootR (List.replicate N (0 : UInt8) ++ d))
  have HRR := Lib.hid hr
  have HNF := Lib.hid (HF.out (List.replicate N (0 : UInt8)) (by simp; exact HN8.out))
  have HRE := Lib.hid HNF.out.root
  have HCP := Lib.hid hown1.cap
  clear hown1 hfr1 hat1 hr hmk e1 hN0 hN1 hml HBR
  go_at_call 15
  refine (root_spec2 A1 (N + m) c1 _ _ rp rq rt rv 0 HO3.out.is (by have h1 := HML.out; have h2 := HN32.out; omega) HRR.out HRE.out).mono ?_
  rintro e w4 ⟨rfl, hb⟩
  have HB4 := Lib.hid (pure_below HB3.out hb)
  have HR4 := Lib.hid (HR3.out.pure hb)
  have HI4 := Lib.hid (HO3.out.is.pure hb)
  clear hb
  have hR5 := HR4.out.alloc (.cells #[.int .i64 rp, .int .i64 rq, .int .i64 rt, .int .i64 rv] 36)
  have r0 := cell0 hR5
  have r1 := cell1 hR5
  have r2 := cell2 hR5
  have r3 := cell3 hR5
  have f0 := hR5.frozen 0
  have f1 := hR5.frozen 1
  have f2 := hR5.frozen 2
  have f3 := hR5.frozen 3
  have hne : w.heap.size ≠ w4.heap.size := Nat.ne_of_lt HR4.out.lt
  clear hR5
  go_wp2_with fail
  go_region
  obtain ⟨wF, hwF, r0, r1, r2, r3, hIF, hBF⟩ := built_end rp rq rt rv HR4.out HI4.out (by rintro ad rfl h; exact own_blk_ne HO3.out.2 HR3.out (by decide) (by simp [Value.ownBlock, h])) HB4.out
  have HIF := Lib.hid hIF
  have HBF := Lib.hid hBF
  rw [← hwF]
  clear hne hIF hBF hwF f0 f1 f2 f3
  go_wp2_with fail
  refine bodyPost_ret (v := .tuple #[.slice A1 (N + m) c1, .agg #[.int .i64 rp, .int .i64 rq, .int .i64 rt, .int .i64 rv], .bool true]) (by simp [results, Tryz.results29, go_sem, r0, r1, r2, r3]) rfl ?_
  exact ⟨A1, N + m, c1, _, rp, rq, rt, rv, rfl, HIF.out, HCP.out.1, by have h1 := HML.out; have h2 := HN32.out; omega, HRR.out, HNF.out, HBF.out⟩
set_option maxRecDepth 100000 in
set_option maxHeartbeats 800000 in
theorem built_8 (u : Nat) (a : Int) (w : World) (_hu : u < 18446744073709551616) : Calls Tryz.prog 29 #[.int .i64 8, .int .u64 (u : Int), .int .i64 a] w (BuiltW w 8 (numNeg 8 (wrap64 (u : Int))) (numMag 8 (wrap64 (u : Int)) (0 : Nat))) := by
  obtain ⟨d, hdl, hd, hF⟩ := build_num (k := 8) (n := (wrap64 (u : Int))) (u := (0 : Nat)) (s := []) 0 (.inr (.inr (.inr (.inr (.inl ⟨rfl, rfl, rfl⟩))))) (by unfold wrap64; omega) (by omega)
  have HD := Lib.hid hd
  have HF := Lib.hid hF
  have HDL := Lib.hid hdl
  clear hd hF hdl
  go_enter Tryz.func29, Tryz.ntmps29
  have HB := Lib.hid (show Below w.heap.size w ((w.alloc (.cells #[.int .i64 0, .int .i64 0, .int .i64 0, .int .i64 0] 36)).alloc (.cells #[.int .i64 8, .int .i64 (wrap64 (u : Int)), .int .u64 ((0 : Nat) : Int), .string ⟨([] : List UInt8).toArray⟩, .slice none 0 0, .slice none 0 0] 26)) from ((Below.refl _ _).alloc (Nat.le_refl _) _).alloc (by simp) _)
  have HR := Lib.hid ((Blk.new w 36 #[.int .i64 0, .int .i64 0, .int .i64 0, .int .i64 0]).alloc (.cells #[.int .i64 8, .int .i64 (wrap64 (u : Int)), .int .u64 ((0 : Nat) : Int), .string ⟨([] : List UInt8).toArray⟩, .slice none 0 0, .slice none 0 0] 26))
  go_wp2_with fail
  go_at_call 12
  refine (HD.out _).mono ?_
  intro e w2 hDoc
  obtain ⟨A, m, c, rfl, hO, hb⟩ := hDoc
  have HOD := Lib.hid hO
  have HML := Lib.hid (show m ≤ 1048576 by rw [← hO.1]; exact HDL.out)
  have HB2 := Lib.hid (pure_below HB.out hb)
  have HR2 := Lib.hid (HR.out.pure hb)
  clear hb hO HB HR
  obtain ⟨q, hq⟩ : ∃ q : Nat, a % 4 = (q : Int) := ⟨(a % 4).toNat, by omega⟩
  have hq4 : q < 4 := by omega
  obtain ⟨N, hN⟩ : ∃ N : Nat, 8 * q = N := ⟨_, rfl⟩
  have HN8 := Lib.hid (show N % 8 = 0 by omega)
  have HN32 := Lib.hid (show N ≤ 32 by omega)
  have e1 : 8 * (q : Int) = (N : Int) := by omega
  have hN0 : (0 : Int) ≤ (N : Int) := by omega
  have hN1 : (N : Int) ≤ 32 := by omega
  obtain ⟨Z, hZ1, hZ2, hmk⟩ := make_b N (by omega)
  have HZ2 := Lib.hid hZ2
  clear hZ1 hZ2
  have HBR := Lib.hid (show Calls Tryz.prog 14 #[.int .i64 a, .int .i64 4] w2 fun e w' => e = .returned (.int .i64 (q : Int)) ∧ w2 = w' by rw [← hq]; exact bring_spec a 4 w2 (by omega) (by omega))
  clear hq hq4 hN
  go_wp2_with fail
  go_at_call 14
  refine HBR.out.mono ?_
  rintro e w' ⟨rfl, rfl⟩
  have hml := HML.out
  go_wp2_with (at_builtin; refine wpl_app _ rfl (.tmp 45) (.tmp 46) _ rfl 5 _ 1 1 Tryz.underlying29 info_b rfl (by omega) bc_len bc_one _ _ _ _ _ rfl (ownb_lit w2 Z N w.heap.size (List.replicate N (0 : UInt8)) (Nat.le_trans HB2.out.size (Nat.le_refl _)) (by simp) (by omega) HZ2.out) _ _ _ _ rfl (HOD.out.is.alloc _) (by omega) (by have := HB2.out.size; simp; omega) ?_; intro A1 c1 w3 hown1 hfr1 hat1)
  have HO3 := Lib.hid hown1
  have HNB := Lib.hid (show w.heap.size ≠ w2.heap.size from Nat.ne_of_lt HR2.out.lt)
  have HR3 := Lib.hid ((HR2.out.alloc (.cells Z 5)).fr hfr1 (by rintro ⟨ad, h, h'⟩; injection h with h; subst h; exact HNB.out h'))
  have HB3 := Lib.hid ((HB2.out.alloc HB2.out.size (.cells Z 5)).trans (hfr1.belowB (fun k hk ⟨ad, h, h'⟩ => by injection h with h; subst h; have h2 := HB2.out.size; have h3 : k = w2.heap.size := h'; omega) (by have h2 := HB2.out.size; simp; omega)))
  obtain ⟨rp, rq, rt, rv, hr⟩ := quad (rootR (List.replicate N (0 : UInt8) ++ d))
  have HRR := Lib.hid hr
  have HNF := Lib.hid (HF.out (List.replicate N (0 : UInt8)) (by simp; exact HN8.out))
  have HRE := Lib.hid HNF.out.root
  have HCP := Lib.hid hown1.cap
  clear hown1 hfr1 hat1 hr hmk e1 hN0 hN1 hml HBR
  go_at_call 15
  refine (root_spec2 A1 (N + m) c1 _ _ rp rq rt rv 0 HO3.out.is (by have h1 := HML.out; have h2 := HN32.out; omega) HRR.out HRE.out).mono ?_
  rintro e w4 ⟨rfl, hb⟩
  have HB4 := Lib.hid (pure_below HB3.out hb)
  have HR4 := Lib.hid (HR3.out.pure hb)
  have HI4 := Lib.hid (HO3.out.is.pure hb)
  clear hb
  have hR5 := HR4.out.alloc (.cells #[.int .i64 rp, .int .i64 rq, .int .i64 rt, .int .i64 rv] 36)
  have r0 := cell0 hR5
  have r1 := cell1 hR5
  have r2 := cell2 hR5
  have r3 := cell3 hR5
  have f0 := hR5.frozen 0
  have f1 := hR5.frozen 1
  have f2 := hR5.frozen 2
  have f3 := hR5.frozen 3
  have hne : w.heap.size ≠ w4.heap.size := Nat.ne_of_lt HR4.out.lt
  clear hR5
  go_wp2_with fail
  go_region
  obtain ⟨wF, hwF, r0, r1, r2, r3, hIF, hBF⟩ := built_end rp rq rt rv HR4.out HI4.out (by rintro ad rfl h; exact own_blk_ne HO3.out.2 HR3.out (by decide) (by simp [Value.ownBlock, h])) HB4.out
  have HIF := Lib.hid hIF
  have HBF := Lib.hid hBF
  rw [← hwF]
  clear hne hIF hBF hwF f0 f1 f2 f3
  go_wp2_with fail
  refine bodyPost_ret (v := .tuple #[.slice A1 (N + m) c1, .agg #[.int .i64 rp, .int .i64 rq, .int .i64 rt, .int .i64 rv], .bool true]) (by simp [results, Tryz.results29, go_sem, r0, r1, r2, r3]) rfl ?_
  exact ⟨A1, N + m, c1, _, rp, rq, rt, rv, rfl, HIF.out, HCP.out.1, by have h1 := HML.out; have h2 := HN32.out; omega, HRR.out, HNF.out, HBF.out⟩
set_option maxRecDepth 100000 in
set_option maxHeartbeats 800000 in
theorem built_4 (u : Nat) (a : Int) (w : World) (hu : u < 18446744073709551616) : Calls Tryz.prog 29 #[.int .i64 4, .int .u64 (u : Int), .int .i64 a] w (BuiltW w 4 (numNeg 4 0) (numMag 4 0 u)) := by
  obtain ⟨d, hdl, hd, hF⟩ := build_num (k := 4) (n := 0) (u := u) (s := []) 0 (.inr (.inr (.inr (.inl ⟨rfl, rfl, rfl⟩)))) (by omega) hu
  have HD := Lib.hid hd
  have HF := Lib.hid hF
  have HDL := Lib.hid hdl
  clear hd hF hdl
  go_enter Tryz.func29, Tryz.ntmps29
  have HB := Lib.hid (show Below w.heap.size w ((w.alloc (.cells #[.int .i64 0, .int .i64 0, .int .i64 0, .int .i64 0] 36)).alloc (.cells #[.int .i64 4, .int .i64 0, .int .u64 (u : Int), .string ⟨([] : List UInt8).toArray⟩, .slice none 0 0, .slice none 0 0] 26)) from ((Below.refl _ _).alloc (Nat.le_refl _) _).alloc (by simp) _)
  have HR := Lib.hid ((Blk.new w 36 #[.int .i64 0, .int .i64 0, .int .i64 0, .int .i64 0]).alloc (.cells #[.int .i64 4, .int .i64 0, .int .u64 (u : Int), .string ⟨([] : List UInt8).toArray⟩, .slice none 0 0, .slice none 0 0] 26))
  go_wp2_with fail
  go_at_call 12
  refine (HD.out _).mono ?_
  intro e w2 hDoc
  obtain ⟨A, m, c, rfl, hO, hb⟩ := hDoc
  have HOD := Lib.hid hO
  have HML := Lib.hid (show m ≤ 1048576 by rw [← hO.1]; exact HDL.out)
  have HB2 := Lib.hid (pure_below HB.out hb)
  have HR2 := Lib.hid (HR.out.pure hb)
  clear hb hO HB HR
  obtain ⟨q, hq⟩ : ∃ q : Nat, a % 4 = (q : Int) := ⟨(a % 4).toNat, by omega⟩
  have hq4 : q < 4 := by omega
  obtain ⟨N, hN⟩ : ∃ N : Nat, 8 * q = N := ⟨_, rfl⟩
  have HN8 := Lib.hid (show N % 8 = 0 by omega)
  have HN32 := Lib.hid (show N ≤ 32 by omega)
  have e1 : 8 * (q : Int) = (N : Int) := by omega
  have hN0 : (0 : Int) ≤ (N : Int) := by omega
  have hN1 : (N : Int) ≤ 32 := by omega
  obtain ⟨Z, hZ1, hZ2, hmk⟩ := make_b N (by omega)
  have HZ2 := Lib.hid hZ2
  clear hZ1 hZ2
  have HBR := Lib.hid (show Calls Tryz.prog 14 #[.int .i64 a, .int .i64 4] w2 fun e w' => e = .returned (.int .i64 (q : Int)) ∧ w2 = w' by rw [← hq]; exact bring_spec a 4 w2 (by omega) (by omega))
  clear hq hq4 hN
  go_wp2_with fail
  go_at_call 14
  refine HBR.out.mono ?_
  rintro e w' ⟨rfl, rfl⟩
  have hml := HML.out
  go_wp2_with (at_builtin; refine wpl_app _ rfl (.tmp 45) (.tmp 46) _ rfl 5 _ 1 1 Tryz.underlying29 info_b rfl (by omega) bc_len bc_one _ _ _ _ _ rfl (ownb_lit w2 Z N w.heap.size (List.replicate N (0 : UInt8)) (Nat.le_trans HB2.out.size (Nat.le_refl _)) (by simp) (by omega) HZ2.out) _ _ _ _ rfl (HOD.out.is.alloc _) (by omega) (by have := HB2.out.size; simp; omega) ?_; intro A1 c1 w3 hown1 hfr1 hat1)
  have HO3 := Lib.hid hown1
  have HNB := Lib.hid (show w.heap.size ≠ w2.heap.size from Nat.ne_of_lt HR2.out.lt)
  have HR3 := Lib.hid ((HR2.out.alloc (.cells Z 5)).fr hfr1 (by rintro ⟨ad, h, h'⟩; injection h with h; subst h; exact HNB.out h'))
  have HB3 := Lib.hid ((HB2.out.alloc HB2.out.size (.cells Z 5)).trans (hfr1.belowB (fun k hk ⟨ad, h, h'⟩ => by injection h with h; subst h; have h2 := HB2.out.size; have h3 : k = w2.heap.size := h'; omega) (by have h2 := HB2.out.size; simp; omega)))
  obtain ⟨rp, rq, rt, rv, hr⟩ := quad (rootR (List.replicate N (0 : UInt8) ++ d))
  have HRR := Lib.hid hr
  have HNF := Lib.hid (HF.out (List.replicate N (0 : UInt8)) (by simp; exact HN8.out))
  have HRE := Lib.hid HNF.out.root
  have HCP := Lib.hid hown1.cap
  clear hown1 hfr1 hat1 hr hmk e1 hN0 hN1 hml HBR
  go_at_call 15
  refine (root_spec2 A1 (N + m) c1 _ _ rp rq rt rv 0 HO3.out.is (by have h1 := HML.out; have h2 := HN32.out; omega) HRR.out HRE.out).mono ?_
  rintro e w4 ⟨rfl, hb⟩
  have HB4 := Lib.hid (pure_below HB3.out hb)
  have HR4 := Lib.hid (HR3.out.pure hb)
  have HI4 := Lib.hid (HO3.out.is.pure hb)
  clear hb
  have hR5 := HR4.out.alloc (.cells #[.int .i64 rp, .int .i64 rq, .int .i64 rt, .int .i64 rv] 36)
  have r0 := cell0 hR5
  have r1 := cell1 hR5
  have r2 := cell2 hR5
  have r3 := cell3 hR5
  have f0 := hR5.frozen 0
  have f1 := hR5.frozen 1
  have f2 := hR5.frozen 2
  have f3 := hR5.frozen 3
  have hne : w.heap.size ≠ w4.heap.size := Nat.ne_of_lt HR4.out.lt
  clear hR5
  go_wp2_with fail
  go_region
  obtain ⟨wF, hwF, r0, r1, r2, r3, hIF, hBF⟩ := built_end rp rq rt rv HR4.out HI4.out (by rintro ad rfl h; exact own_blk_ne HO3.out.2 HR3.out (by decide) (by simp [Value.ownBlock, h])) HB4.out
  have HIF := Lib.hid hIF
  have HBF := Lib.hid hBF
  rw [← hwF]
  clear hne hIF hBF hwF f0 f1 f2 f3
  go_wp2_with fail
  refine bodyPost_ret (v := .tuple #[.slice A1 (N + m) c1, .agg #[.int .i64 rp, .int .i64 rq, .int .i64 rt, .int .i64 rv], .bool true]) (by simp [results, Tryz.results29, go_sem, r0, r1, r2, r3]) rfl ?_
  exact ⟨A1, N + m, c1, _, rp, rq, rt, rv, rfl, HIF.out, HCP.out.1, by have h1 := HML.out; have h2 := HN32.out; omega, HRR.out, HNF.out, HBF.out⟩
set_option maxRecDepth 100000 in
set_option maxHeartbeats 800000 in
theorem built_9 (u : Nat) (a : Int) (w : World) (hu : u < 18446744073709551616) : Calls Tryz.prog 29 #[.int .i64 9, .int .u64 (u : Int), .int .i64 a] w (BuiltW w 9 (numNeg 9 0) (numMag 9 0 u)) := by
  obtain ⟨d, hdl, hd, hF⟩ := build_num (k := 9) (n := 0) (u := u) (s := []) 0 (.inr (.inr (.inr (.inr (.inr ⟨rfl, rfl, rfl⟩))))) (by omega) hu
  have HD := Lib.hid hd
  have HF := Lib.hid hF
  have HDL := Lib.hid hdl
  clear hd hF hdl
  go_enter Tryz.func29, Tryz.ntmps29
  have HB := Lib.hid (show Below w.heap.size w ((w.alloc (.cells #[.int .i64 0, .int .i64 0, .int .i64 0, .int .i64 0] 36)).alloc (.cells #[.int .i64 9, .int .i64 0, .int .u64 (u : Int), .string ⟨([] : List UInt8).toArray⟩, .slice none 0 0, .slice none 0 0] 26)) from ((Below.refl _ _).alloc (Nat.le_refl _) _).alloc (by simp) _)
  have HR := Lib.hid ((Blk.new w 36 #[.int .i64 0, .int .i64 0, .int .i64 0, .int .i64 0]).alloc (.cells #[.int .i64 9, .int .i64 0, .int .u64 (u : Int), .string ⟨([] : List UInt8).toArray⟩, .slice none 0 0, .slice none 0 0] 26))
  go_wp2_with fail
  go_at_call 12
  refine (HD.out _).mono ?_
  intro e w2 hDoc
  obtain ⟨A, m, c, rfl, hO, hb⟩ := hDoc
  have HOD := Lib.hid hO
  have HML := Lib.hid (show m ≤ 1048576 by rw [← hO.1]; exact HDL.out)
  have HB2 := Lib.hid (pure_below HB.out hb)
  have HR2 := Lib.hid (HR.out.pure hb)
  clear hb hO HB HR
  obtain ⟨q, hq⟩ : ∃ q : Nat, a % 4 = (q : Int) := ⟨(a % 4).toNat, by omega⟩
  have hq4 : q < 4 := by omega
  obtain ⟨N, hN⟩ : ∃ N : Nat, 8 * q = N := ⟨_, rfl⟩
  have HN8 := Lib.hid (show N % 8 = 0 by omega)
  have HN32 := Lib.hid (show N ≤ 32 by omega)
  have e1 : 8 * (q : Int) = (N : Int) := by omega
  have hN0 : (0 : Int) ≤ (N : Int) := by omega
  have hN1 : (N : Int) ≤ 32 := by omega
  obtain ⟨Z, hZ1, hZ2, hmk⟩ := make_b N (by omega)
  have HZ2 := Lib.hid hZ2
  clear hZ1 hZ2
  have HBR := Lib.hid (show Calls Tryz.prog 14 #[.int .i64 a, .int .i64 4] w2 fun e w' => e = .returned (.int .i64 (q : Int)) ∧ w2 = w' by rw [← hq]; exact bring_spec a 4 w2 (by omega) (by omega))
  clear hq hq4 hN
  go_wp2_with fail
  go_at_call 14
  refine HBR.out.mono ?_
  rintro e w' ⟨rfl, rfl⟩
  have hml := HML.out
  go_wp2_with (at_builtin; refine wpl_app _ rfl (.tmp 45) (.tmp 46) _ rfl 5 _ 1 1 Tryz.underlying29 info_b rfl (by omega) bc_len bc_one _ _ _ _ _ rfl (ownb_lit w2 Z N w.heap.size (List.replicate N (0 : UInt8)) (Nat.le_trans HB2.out.size (Nat.le_refl _)) (by simp) (by omega) HZ2.out) _ _ _ _ rfl (HOD.out.is.alloc _) (by omega) (by have := HB2.out.size; simp; omega) ?_; intro A1 c1 w3 hown1 hfr1 hat1)
  have HO3 := Lib.hid hown1
  have HNB := Lib.hid (show w.heap.size ≠ w2.heap.size from Nat.ne_of_lt HR2.out.lt)
  have HR3 := Lib.hid ((HR2.out.alloc (.cells Z 5)).fr hfr1 (by rintro ⟨ad, h, h'⟩; injection h with h; subst h; exact HNB.out h'))
  have HB3 := Lib.hid ((HB2.out.alloc HB2.out.size (.cells Z 5)).trans (hfr1.belowB (fun k hk ⟨ad, h, h'⟩ => by injection h with h; subst h; have h2 := HB2.out.size; have h3 : k = w2.heap.size := h'; omega) (by have h2 := HB2.out.size; simp; omega)))
  obtain ⟨rp, rq, rt, rv, hr⟩ := quad (rootR (List.replicate N (0 : UInt8) ++ d))
  have HRR := Lib.hid hr
  have HNF := Lib.hid (HF.out (List.replicate N (0 : UInt8)) (by simp; exact HN8.out))
  have HRE := Lib.hid HNF.out.root
  have HCP := Lib.hid hown1.cap
  clear hown1 hfr1 hat1 hr hmk e1 hN0 hN1 hml HBR
  go_at_call 15
  refine (root_spec2 A1 (N + m) c1 _ _ rp rq rt rv 0 HO3.out.is (by have h1 := HML.out; have h2 := HN32.out; omega) HRR.out HRE.out).mono ?_
  rintro e w4 ⟨rfl, hb⟩
  have HB4 := Lib.hid (pure_below HB3.out hb)
  have HR4 := Lib.hid (HR3.out.pure hb)
  have HI4 := Lib.hid (HO3.out.is.pure hb)
  clear hb
  have hR5 := HR4.out.alloc (.cells #[.int .i64 rp, .int .i64 rq, .int .i64 rt, .int .i64 rv] 36)
  have r0 := cell0 hR5
  have r1 := cell1 hR5
  have r2 := cell2 hR5
  have r3 := cell3 hR5
  have f0 := hR5.frozen 0
  have f1 := hR5.frozen 1
  have f2 := hR5.frozen 2
  have f3 := hR5.frozen 3
  have hne : w.heap.size ≠ w4.heap.size := Nat.ne_of_lt HR4.out.lt
  clear hR5
  go_wp2_with fail
  go_region
  obtain ⟨wF, hwF, r0, r1, r2, r3, hIF, hBF⟩ := built_end rp rq rt rv HR4.out HI4.out (by rintro ad rfl h; exact own_blk_ne HO3.out.2 HR3.out (by decide) (by simp [Value.ownBlock, h])) HB4.out
  have HIF := Lib.hid hIF
  have HBF := Lib.hid hBF
  rw [← hwF]
  clear hne hIF hBF hwF f0 f1 f2 f3
  go_wp2_with fail
  refine bodyPost_ret (v := .tuple #[.slice A1 (N + m) c1, .agg #[.int .i64 rp, .int .i64 rq, .int .i64 rt, .int .i64 rv], .bool true]) (by simp [results, Tryz.results29, go_sem, r0, r1, r2, r3]) rfl ?_
  exact ⟨A1, N + m, c1, _, rp, rq, rt, rv, rfl, HIF.out, HCP.out.1, by have h1 := HML.out; have h2 := HN32.out; omega, HRR.out, HNF.out, HBF.out⟩
end Go.Proofs.YtjhigmgkmmjlfaaGreat
