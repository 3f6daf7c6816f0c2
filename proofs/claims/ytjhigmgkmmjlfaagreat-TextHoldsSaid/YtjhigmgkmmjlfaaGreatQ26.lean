/-
  Package text: a counted text.
-/
import Derived.Test.YtjhigmgkmmjlfaaGreatQ25
namespace Go.Proofs.YtjhigmgkmmjlfaaGreat
open Go.RowKit Go.Acc
theorem is_drew {α : Type} {f : α → List Value} {w : World} {A : Option Addr} {n : Nat} {l : List α} (h : Is f w A n l) : Is f w.drew A n l := h
theorem cnt_cases (l : List UInt8) (a v k u : Nat) (hu : loadU l ((a : Int) - v) v = u) :
    (a % v ≠ 0 ∧ cntE l a v k = 212) ∨ (a % v = 0 ∧ a < v ∧ cntE l a v k = 211) ∨ (a % v = 0 ∧ v ≤ a ∧ l.length < a + u + k ∧ cntE l a v k = 211) ∨
    (a % v = 0 ∧ v ≤ a ∧ a + u + k ≤ l.length ∧ (l.drop (a + u)).take k = List.replicate k 0 ∧ cntE l a v k = 0) ∨ (a % v = 0 ∧ v ≤ a ∧ a + u + k ≤ l.length ∧ ¬ (l.drop (a + u)).take k = List.replicate k 0 ∧ cntE l a v k = 213) := by
  unfold cntE
  rw [hu]
  by_cases h1 : a % v = 0
  · rw [if_neg (by simpa using h1)]
    by_cases h2 : a < v
    · rw [if_pos h2]; exact .inr (.inl ⟨h1, h2, rfl⟩)
    · rw [if_neg h2]
      by_cases h3 : l.length < a + u + k
      · rw [if_pos h3]; exact .inr (.inr (.inl ⟨h1, by omega, h3, rfl⟩))
      · rw [if_neg h3]
        by_cases h4 : (l.drop (a + u)).take k = List.replicate k 0
        · rw [if_pos h4]; exact .inr (.inr (.inr (.inl ⟨h1, by omega, by omega, h4, rfl⟩)))
        · rw [if_neg h4]; exact .inr (.inr (.inr (.inr ⟨h1, by omega, by omega, h4, rfl⟩)))
  · rw [if_pos h1]; exact .inl ⟨h1, rfl⟩
set_option maxHeartbeats 1000000 in
theorem counted_spec (A : Option Addr) (n c a v k : Nat) (l : List UInt8) (w : World) (h : IsB w A n l) (hc : n ≤ c) (ha : a ≤ n) (hn : n ≤ 1099511627776) (hv : isW (v : Int) = true) (hk : k ≤ 1) :
    Calls Tryz.prog 110 #[.slice A n c, .int .i64 a, .int .i64 v, .int .i64 k] w (FoundW w A n l (if cntE l a v k = 0 then a else 0) (if cntE l a v k = 0 then cntL l a v else []) (cntE l a v k)) := by
  have hlen := h.1
  subst hlen
  have HI := Lib.hid (h.alloc (.cells #[.int .i64 0, .slice none 0 0] 105))
  have HB := Lib.hid ((Below.refl w.heap.size w).alloc (Nat.le_refl _) (.cells #[.int .i64 0, .slice none 0 0] 105))
  have HK := Lib.hid (Blk.new w 105 #[.int .i64 0, .slice none 0 0])
  clear h
  obtain ⟨u, hu⟩ : ∃ u, loadU l ((a : Int) - v) v = u := ⟨_, rfl⟩
  have HU := Lib.hid hu
  have hv8 : 1 ≤ v ∧ v ≤ 8 := by have := isW_iff.1 hv; omega
  have hv1 := hv8.1
  have hv2 := hv8.2
  have hcs := cnt_cases l a v k u hu
  clear hu hv8
  have hvz : (v == 0) = false := beq_eq_false_iff_ne.mpr (by omega)
  rcases hcs with ⟨h1, he⟩ | ⟨h1, h2, he⟩ | ⟨h1, h2, h3, he⟩ | ⟨h1, h2, h3, h4, he⟩ | ⟨h1, h2, h3, h4, he⟩
  · rw [he, if_neg (by decide), if_neg (by decide)]
    have hm : ((a : Int) % (v : Int) != 0) = true := by simp; omega
    clear he h1
    go_enter Tryz.func110, Tryz.ntmps110
    go_wp2
    refine bodyPost_ret (v := .tuple #[.agg #[.int .i64 0, .slice none 0 0], .int .i64 212]) (by simp [results, Tryz.results110, go_sem]) rfl ⟨none, 0, 0, rfl, fun _ _ => Is.nil _ _, Nat.le_refl _, HB.out⟩
  · rw [he, if_neg (by decide), if_neg (by decide)]
    have hm : ((a : Int) % (v : Int) != 0) = false := by simp; omega
    clear he h1
    go_enter Tryz.func110, Tryz.ntmps110
    go_wp2
    refine bodyPost_ret (v := .tuple #[.agg #[.int .i64 0, .slice none 0 0], .int .i64 211]) (by simp [results, Tryz.results110, go_sem]) rfl ⟨none, 0, 0, rfl, fun _ _ => Is.nil _ _, Nat.le_refl _, HB.out⟩
  · rw [he, if_neg (by decide), if_neg (by decide)]
    clear he
    have hm : ((a : Int) % (v : Int) != 0) = false := by simp; omega
    have hx : decide ((a : Int) < (v : Int)) = false := by simp; omega
    clear h1
    go_enter Tryz.func110, Tryz.ntmps110
    go_wp2_with fail
    go_at_call 62
    refine (load_spec A _ c ((a : Int) - v) v l _ HI.out hc (by omega)).mono ?_
    rw [HU.out]
    obtain ⟨er, her⟩ : ∃ er, loadE l.length ((a : Int) - v) v = er := ⟨_, rfl⟩
    rw [her]
    rintro e w1 ⟨rfl, hb⟩
    have HB := Lib.hid (pure_below HB.out hb)
    have HI := Lib.hid (HI.out.pure hb)
    have HK := Lib.hid (HK.out.pure hb)
    have c0 : w1.cell? ⟨w.heap.size, 0, none⟩ = some (.int .i64 0) := HK.out.cell 0
    have c1 : w1.cell? ⟨w.heap.size, 1, none⟩ = some (.slice none 0 0) := HK.out.cell 1
    have f0 := HK.out.frozen 0
    have f1 := HK.out.frozen 1
    have hn63 : l.length ≤ 9223372036854775807 := by omega
    have HWL := Lib.hid (u64_in (l.length : Int) (by omega))
    clear hb her
    by_cases hul : l.length < u
    · have hwl := HWL.out
      have hd : decide ((l.length : Int) < (u : Int)) = true := by simpa using hul
      go_wp2
      refine bodyPost_ret (v := .tuple #[.agg #[.int .i64 0, .slice none 0 0], .int .i64 211]) (by simp [results, Tryz.results110, go_sem, c0, c1]) rfl ⟨none, 0, 0, rfl, fun _ _ => Is.nil _ _, Nat.le_refl _, ((HB.out.setCell (Nat.le_refl _) _).setCell (Nat.le_refl _) _)⟩
    · have hd : decide ((l.length : Int) < (u : Int)) = false := by simpa using hul
      have W2 := Lib.hid (wrap64_in (u : Int) (by omega))
      have W3 := Lib.hid (wrap64_in ((u : Int) + k) (by omega))
      have HIN := Lib.hid (show inB l.length a ((u : Int) + k) = false from decide_eq_false (by omega))
      have hw2 := W2.out
      have hw3 := W3.out
      have hwl := HWL.out
      go_wp2_with fail
      go_at_call 50
      refine (inside_spec A _ c a ((u : Int) + k) _ hn63).mono ?_
      rw [HIN.out]
      rintro e w2 ⟨rfl, rfl⟩
      go_wp2
      refine bodyPost_ret (v := .tuple #[.agg #[.int .i64 0, .slice none 0 0], .int .i64 211]) (by simp [results, Tryz.results110, go_sem, c0, c1]) rfl ⟨none, 0, 0, rfl, fun _ _ => Is.nil _ _, Nat.le_refl _, ((HB.out.setCell (Nat.le_refl _) _).setCell (Nat.le_refl _) _)⟩
  · rw [he, if_pos rfl, if_pos rfl]
    clear he
    have HE := Lib.hid (show eqB ((l.drop (a + u)).take k) (List.replicate k 0) = true from decide_eq_true h4)
    clear h4
    have hm : ((a : Int) % (v : Int) != 0) = false := by simp; omega
    have hx : decide ((a : Int) < (v : Int)) = false := by simp; omega
    clear h1
    go_enter Tryz.func110, Tryz.ntmps110
    go_wp2_with fail
    go_at_call 62
    refine (load_spec A _ c ((a : Int) - v) v l _ HI.out hc (by omega)).mono ?_
    rw [HU.out]
    obtain ⟨er, her⟩ : ∃ er, loadE l.length ((a : Int) - v) v = er := ⟨_, rfl⟩
    rw [her]
    rintro e w1 ⟨rfl, hb⟩
    have HB := Lib.hid (pure_below HB.out hb)
    have HI := Lib.hid (HI.out.pure hb)
    have HK := Lib.hid (HK.out.pure hb)
    have c0 : w1.cell? ⟨w.heap.size, 0, none⟩ = some (.int .i64 0) := HK.out.cell 0
    have c1 : w1.cell? ⟨w.heap.size, 1, none⟩ = some (.slice none 0 0) := HK.out.cell 1
    have f0 := HK.out.frozen 0
    have f1 := HK.out.frozen 1
    have hn63 : l.length ≤ 9223372036854775807 := by omega
    have HWL := Lib.hid (u64_in (l.length : Int) (by omega))
    clear hb her
    have hd : decide (l.length < u) = false := decide_eq_false (by omega)
    have hd2 : u ≤ l.length := by omega
    obtain ⟨T, hT⟩ : ∃ T, T = a + u := ⟨_, rfl⟩
    obtain ⟨T2, hT2⟩ : ∃ T2, T2 = T + k := ⟨_, rfl⟩
    obtain ⟨Z, hZ1, hZ2, hmk⟩ := make_b k (by omega)
    obtain ⟨X, hX1, hX2⟩ := cut_any A l.length c T T2 (by omega) (by omega) hc
    obtain ⟨Y, hY1, hY2⟩ := cut_full A l.length c a T (by omega) (by omega) hc
    have HIN := Lib.hid (show inB l.length a ((u : Int) + k) = true from inB_iff.2 ⟨by omega, by omega, by omega⟩)
    have W2 := Lib.hid (wrap64_in (u : Int) (by omega))
    have W3 := Lib.hid (wrap64_in ((u : Int) + k) (by omega))
    have W4 := Lib.hid ((wrap64_in ((a : Int) + u) (by omega)).trans (show (a : Int) + u = (T : Int) by omega))
    have W5 := Lib.hid ((IntWalk.i64_in ((T : Int) + (k : Int)) (by omega)).trans (show (T : Int) + k = (T2 : Int) by omega))
    have W6 := Lib.hid ((wrap64_in ((T : Int) + (k : Int)) (by omega)).trans (show (T : Int) + k = (T2 : Int) by omega))
    have s0 : (0 : Int) ≤ T := by omega
    have s1 : (T : Int) ≤ T2 := by omega
    have s2 : (T2 : Int) ≤ c := by omega
    have s3 : (0 : Int) ≤ k := by omega
    rw [show T2 - T = k by omega] at hX1 hX2
    rw [show T - a = u by omega] at hY1 hY2
    have HX2 := Lib.hid hX2
    have HY2 := Lib.hid hY2
    have HZ2 := Lib.hid hZ2
    have HAU := Lib.hid (show (a : Int) + u = (T : Int) by omega)
    have HT := Lib.hid hT
    rw [← hT] at HE
    have HT2 := Lib.hid hT2
    clear hX2 hY2 hZ1 hZ2 hT hT2 h3
    have hw2 := W2.out
    have hw3 := W3.out
    have hwl := HWL.out
    go_wp2_with fail
    go_at_call 50
    refine (inside_spec A _ c a ((u : Int) + k) _ hn63).mono ?_
    rw [HIN.out]
    rintro e w2 ⟨rfl, rfl⟩
    clear hw3
    have hw4 := W4.out
    have hw5 := W5.out
    have hw6 := W6.out
    go_wp2_with fail
    rw [← HAU.out] at hX1 hY1 hw5 hw6
    have HID := Lib.hid (is_drew HI.out)
    go_region_held3 (fun w' => w'.cell? ⟨w.heap.size, 0, none⟩ = some (.int .i64 0) ∧ w'.cell? ⟨w.heap.size, 1, none⟩ = some (.slice none 0 0)) (first | assumption | exact ⟨c0, c1⟩ | exact ⟨cell_pure ((Below.refl _ _).alloc (Nat.le_refl _) _).drew c0, cell_pure ((Below.refl _ _).alloc (Nat.le_refl _) _).drew c1⟩ | exact ⟨cell_pure ((Below.refl _ _).alloc (Nat.le_refl _) _) c0, cell_pure ((Below.refl _ _).alloc (Nat.le_refl _) _) c1⟩)
      (first | (go_at_call 162; refine (bequal_spec X _ k k _ _ ((l.drop T).take k) (List.replicate k 0) _ (HX2.out _ _ (HID.out.alloc _)) (isb_lit _ Z (List.replicate k 0) k (by simp) HZ2.out)).mono ?_; rw [HE.out]; rintro e w5 ⟨rfl, rfl⟩))
    have hbz := (Below.refl w1.heap.size w1).alloc (Nat.le_refl _) (.cells Z 5)
    have d0 := cell_pure hbz (p := ⟨w.heap.size, 0, none⟩) (u := .int .i64 0) c0
    have d1 := cell_pure hbz (p := ⟨w.heap.size, 1, none⟩) (u := .slice none 0 0) c1
    have HF := Lib.hid (HK.out.pure hbz)
    have g0 := HF.out.frozen 0
    have g1 := HF.out.frozen 1
    have HB := Lib.hid (pure_below HB.out hbz.drew)
    have HIz := Lib.hid (HI.out.pure hbz.drew)
    clear hbz c0 c1 f0 f1
    go_wp2
    refine bodyPost_ret (v := .tuple #[.agg #[.int .i64 a, .slice Y u u], .int .i64 0]) (by simp [results, Tryz.results110, go_sem, d0, d1]) rfl ⟨Y, u, u, rfl, ?_, Nat.le_refl _, (HB.out.setCell (Nat.le_refl _) _).setCell (Nat.le_refl _) _⟩
    unfold cntL
    rw [HU.out]
    exact fun _ h => HY2.out _ _ h
  · rw [he, if_neg (by decide), if_neg (by decide)]
    clear he
    have HE := Lib.hid (show eqB ((l.drop (a + u)).take k) (List.replicate k 0) = false from decide_eq_false h4)
    clear h4
    have hm : ((a : Int) % (v : Int) != 0) = false := by simp; omega
    have hx : decide ((a : Int) < (v : Int)) = false := by simp; omega
    clear h1
    go_enter Tryz.func110, Tryz.ntmps110
    go_wp2_with fail
    go_at_call 62
    refine (load_spec A _ c ((a : Int) - v) v l _ HI.out hc (by omega)).mono ?_
    rw [HU.out]
    obtain ⟨er, her⟩ : ∃ er, loadE l.length ((a : Int) - v) v = er := ⟨_, rfl⟩
    rw [her]
    rintro e w1 ⟨rfl, hb⟩
    have HB := Lib.hid (pure_below HB.out hb)
    have HI := Lib.hid (HI.out.pure hb)
    have HK := Lib.hid (HK.out.pure hb)
    have c0 : w1.cell? ⟨w.heap.size, 0, none⟩ = some (.int .i64 0) := HK.out.cell 0
    have c1 : w1.cell? ⟨w.heap.size, 1, none⟩ = some (.slice none 0 0) := HK.out.cell 1
    have f0 := HK.out.frozen 0
    have f1 := HK.out.frozen 1
    have hn63 : l.length ≤ 9223372036854775807 := by omega
    have HWL := Lib.hid (u64_in (l.length : Int) (by omega))
    clear hb her
    have hd : decide (l.length < u) = false := decide_eq_false (by omega)
    have hd2 : u ≤ l.length := by omega
    obtain ⟨T, hT⟩ : ∃ T, T = a + u := ⟨_, rfl⟩
    obtain ⟨T2, hT2⟩ : ∃ T2, T2 = T + k := ⟨_, rfl⟩
    obtain ⟨Z, hZ1, hZ2, hmk⟩ := make_b k (by omega)
    obtain ⟨X, hX1, hX2⟩ := cut_any A l.length c T T2 (by omega) (by omega) hc
    obtain ⟨Y, hY1, hY2⟩ := cut_full A l.length c a T (by omega) (by omega) hc
    have HIN := Lib.hid (show inB l.length a ((u : Int) + k) = true from inB_iff.2 ⟨by omega, by omega, by omega⟩)
    have W2 := Lib.hid (wrap64_in (u : Int) (by omega))
    have W3 := Lib.hid (wrap64_in ((u : Int) + k) (by omega))
    have W4 := Lib.hid ((wrap64_in ((a : Int) + u) (by omega)).trans (show (a : Int) + u = (T : Int) by omega))
    have W5 := Lib.hid ((IntWalk.i64_in ((T : Int) + (k : Int)) (by omega)).trans (show (T : Int) + k = (T2 : Int) by omega))
    have W6 := Lib.hid ((wrap64_in ((T : Int) + (k : Int)) (by omega)).trans (show (T : Int) + k = (T2 : Int) by omega))
    have s0 : (0 : Int) ≤ T := by omega
    have s1 : (T : Int) ≤ T2 := by omega
    have s2 : (T2 : Int) ≤ c := by omega
    have s3 : (0 : Int) ≤ k := by omega
    rw [show T2 - T = k by omega] at hX1 hX2
    rw [show T - a = u by omega] at hY1 hY2
    have HX2 := Lib.hid hX2
    have HY2 := Lib.hid hY2
    have HZ2 := Lib.hid hZ2
    have HAU := Lib.hid (show (a : Int) + u = (T : Int) by omega)
    have HT := Lib.hid hT
    rw [← hT] at HE
    have HT2 := Lib.hid hT2
    clear hX2 hY2 hZ1 hZ2 hT hT2 h3
    have hw2 := W2.out
    have hw3 := W3.out
    have hwl := HWL.out
    go_wp2_with fail
    go_at_call 50
    refine (inside_spec A _ c a ((u : Int) + k) _ hn63).mono ?_
    rw [HIN.out]
    rintro e w2 ⟨rfl, rfl⟩
    clear hw3
    have hw4 := W4.out
    have hw5 := W5.out
    have hw6 := W6.out
    go_wp2_with fail
    rw [← HAU.out] at hX1 hY1 hw5 hw6
    have HID := Lib.hid (is_drew HI.out)
    go_region_held3 (fun w' => w'.cell? ⟨w.heap.size, 0, none⟩ = some (.int .i64 0) ∧ w'.cell? ⟨w.heap.size, 1, none⟩ = some (.slice none 0 0)) (first | assumption | exact ⟨c0, c1⟩ | exact ⟨cell_pure ((Below.refl _ _).alloc (Nat.le_refl _) _).drew c0, cell_pure ((Below.refl _ _).alloc (Nat.le_refl _) _).drew c1⟩ | exact ⟨cell_pure ((Below.refl _ _).alloc (Nat.le_refl _) _) c0, cell_pure ((Below.refl _ _).alloc (Nat.le_refl _) _) c1⟩)
      (first | (go_at_call 162; refine (bequal_spec X _ k k _ _ ((l.drop T).take k) (List.replicate k 0) _ (HX2.out _ _ (HID.out.alloc _)) (isb_lit _ Z (List.replicate k 0) k (by simp) HZ2.out)).mono ?_; rw [HE.out]; rintro e w5 ⟨rfl, rfl⟩))
    have hbz := (Below.refl w1.heap.size w1).alloc (Nat.le_refl _) (.cells Z 5)
    have d0 := cell_pure hbz (p := ⟨w.heap.size, 0, none⟩) (u := .int .i64 0) c0
    have d1 := cell_pure hbz (p := ⟨w.heap.size, 1, none⟩) (u := .slice none 0 0) c1
    have HF := Lib.hid (HK.out.pure hbz)
    have g0 := HF.out.frozen 0
    have g1 := HF.out.frozen 1
    have HB := Lib.hid (pure_below HB.out hbz.drew)
    have HIz := Lib.hid (HI.out.pure hbz.drew)
    clear hbz c0 c1 f0 f1
    go_wp2
    refine bodyPost_ret (v := .tuple #[.agg #[.int .i64 0, .slice none 0 0], .int .i64 213]) (by simp [results, Tryz.results110, go_sem, d0, d1]) rfl ⟨none, 0, 0, rfl, fun _ _ => Is.nil _ _, Nat.le_refl _, (HB.out.setCell (Nat.le_refl _) _).setCell (Nat.le_refl _) _⟩
end Go.Proofs.YtjhigmgkmmjlfaaGreat
