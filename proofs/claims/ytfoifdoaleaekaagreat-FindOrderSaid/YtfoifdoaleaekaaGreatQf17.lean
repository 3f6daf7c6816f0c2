/-
  Package text: a counted text.
  Package text: the contents at a reference.
  Package text: Place, Key, Str, Blob, Text.
-/
import Derived.Test.YtfoifdoaleaekaaGreatQf16
namespace Go.Proofs.YtfoifdoaleaekaaGreat
open Go.RowKit Go.Acc
theorem is_drew {α : Type} {f : α → List Value} {w : World} {A : Option Addr} {n : Nat} {l : List α} (h : Is f w A n l) : Is f w.drew A n l := h
theorem cnt_cases (l : List UInt8) (a v k u : Nat) (hu : loadU l ((a : Int) - v) v = u) :
    (a % v ≠ 0 ∧ cntE l a v k = 212) ∨ (a % v = 0 ∧ a < v ∧ cntE l a v k = 211) ∨ (a % v = 0 ∧ v ≤ a ∧ l.length < a + u + k ∧ cntE l a v k = 211) ∨
    (a % v = 0 ∧ v ≤ a ∧ a + u + k ≤ l.length ∧ (l.drop (a + u)).take k = List.replicate k 0 ∧ cntE l a v k = 0) ∨ (a % v = 0 ∧ v ≤ a ∧ a + u + k ≤ l.length ∧ ¬ (l.drop (a + u)).take k = List.replicate k 0 ∧ cntE l a v k = 213) := by
  unfold cntE
  rw [hu]
  by_cases h1 : a % v = 0
  · rw [if_neg (by simpa using h1)]
    by_cases h2 : a < v
    · rw [if_pos h2]; exact .inr (.inl ⟨h1, h2, rfl⟩)
    · rw [if_neg h2]
      by_cases h3 : l.length < a + u + k
      · rw [if_pos h3]; exact .inr (.inr (.inl ⟨h1, by omega, h3, rfl⟩))
      · rw [if_neg h3]
        by_cases h4 : (l.drop (a + u)).take k = List.replicate k 0
        · rw [if_pos h4]; exact .inr (.inr (.inr (.inl ⟨h1, by omega, by omega, h4, rfl⟩)))
        · rw [if_neg h4]; exact .inr (.inr (.inr (.inr ⟨h1, by omega, by omega, h4, rfl⟩)))
  · rw [if_pos h1]; exact .inl ⟨h1, rfl⟩
set_option maxHeartbeats 1000000 in
theorem counted_spec (A : Option Addr) (n c a v k : Nat) (l : List UInt8) (w : World) (h : IsB w A n l) (hc : n ≤ c) (ha : a ≤ n) (hn : n ≤ 1099511627776) (hv : isW (v : Int) = true) (hk : k ≤ 1) :
    Calls Tryz.prog 240 #[.slice A n c, .int .i64 a, .int .i64 v, .int .i64 k] w (FoundW w A n l (if cntE l a v k = 0 then a else 0) (if cntE l a v k = 0 then cntL l a v else []) (cntE l a v k)) := by
  have hlen := h.1
  subst hlen
  have HI := Lib.hid (h.alloc (.cells #[.int .i64 0, .slice none 0 0] 257))
  have HB := Lib.hid ((Below.refl w.heap.size w).alloc (Nat.le_refl _) (.cells #[.int .i64 0, .slice none 0 0] 257))
  have HK := Lib.hid (Blk.new w 257 #[.int .i64 0, .slice none 0 0])
  clear h
  obtain ⟨u, hu⟩ : ∃ u, loadU l ((a : Int) - v) v = u := ⟨_, rfl⟩
  have HU := Lib.hid hu
  have hv8 : 1 ≤ v ∧ v ≤ 8 := by have := isW_iff.1 hv; omega
  have hv1 := hv8.1
  have hv2 := hv8.2
  have hcs := cnt_cases l a v k u hu
  clear hu hv8
  have hvz : (v == 0) = false := beq_eq_false_iff_ne.mpr (by omega)
  rcases hcs with ⟨h1, he⟩ | ⟨h1, h2, he⟩ | ⟨h1, h2, h3, he⟩ | ⟨h1, h2, h3, h4, he⟩ | ⟨h1, h2, h3, h4, he⟩
  · rw [he, if_neg (by decide), if_neg (by decide)]
    have hm : ((a : Int) % (v : Int) != 0) = true := by simp; omega
    clear he h1
    go_enter Tryz.func240, Tryz.ntmps240
    go_wp2
    refine bodyPost_ret (v := .tuple #[.agg #[.int .i64 0, .slice none 0 0], .int .i64 212]) (by simp [results, Tryz.results240, go_sem]) rfl ⟨none, 0, 0, rfl, fun _ _ => Is.nil _ _, Nat.le_refl _, HB.out⟩
  · rw [he, if_neg (by decide), if_neg (by decide)]
    have hm : ((a : Int) % (v : Int) != 0) = false := by simp; omega
    clear he h1
    go_enter Tryz.func240, Tryz.ntmps240
    go_wp2
    refine bodyPost_ret (v := .tuple #[.agg #[.int .i64 0, .slice none 0 0], .int .i64 211]) (by simp [results, Tryz.results240, go_sem]) rfl ⟨none, 0, 0, rfl, fun _ _ => Is.nil _ _, Nat.le_refl _, HB.out⟩
  · rw [he, if_neg (by decide), if_neg (by decide)]
    clear he
    have hm : ((a : Int) % (v : Int) != 0) = false := by simp; omega
    have hx : decide ((a : Int) < (v : Int)) = false := by simp; omega
    clear h1
    go_enter Tryz.func240, Tryz.ntmps240
    go_wp2_with fail
    go_at_call 47
    refine (load_spec A _ c ((a : Int) - v) v l _ HI.out hc (by omega)).mono ?_
    rw [HU.out]
    obtain ⟨er, her⟩ : ∃ er, loadE l.length ((a : Int) - v) v = er := ⟨_, rfl⟩
    rw [her]
    rintro e w1 ⟨rfl, hb⟩
    have HB := Lib.hid (pure_below HB.out hb)
    have HI := Lib.hid (HI.out.pure hb)
    have HK := Lib.hid (HK.out.pure hb)
    have c0 : w1.cell? ⟨w.heap.size, 0, none⟩ = some (.int .i64 0) := HK.out.cell 0
    have c1 : w1.cell? ⟨w.heap.size, 1, none⟩ = some (.slice none 0 0) := HK.out.cell 1
    have f0 := HK.out.frozen 0
    have f1 := HK.out.frozen 1
    have hn63 : l.length ≤ 9223372036854775807 := by omega
    have HWL := Lib.hid (u64_in (l.length : Int) (by omega))
    clear hb her
    by_cases hul : l.length < u
    · have hwl := HWL.out
      have hd : decide ((l.length : Int) < (u : Int)) = true := by simpa using hul
      go_wp2
      refine bodyPost_ret (v := .tuple #[.agg #[.int .i64 0, .slice none 0 0], .int .i64 211]) (by simp [results, Tryz.results240, go_sem, c0, c1]) rfl ⟨none, 0, 0, rfl, fun _ _ => Is.nil _ _, Nat.le_refl _, ((HB.out.setCell (Nat.le_refl _) _).setCell (Nat.le_refl _) _)⟩
    · have hd : decide ((l.length : Int) < (u : Int)) = false := by simpa using hul
      have W2 := Lib.hid (wrap64_in (u : Int) (by omega))
      have W3 := Lib.hid (wrap64_in ((u : Int) + k) (by omega))
      have HIN := Lib.hid (show inB l.length a ((u : Int) + k) = false from decide_eq_false (by omega))
      have hw2 := W2.out
      have hw3 := W3.out
      have hwl := HWL.out
      go_wp2_with fail
      go_at_call 35
      refine (inside_spec A _ c a ((u : Int) + k) _ hn63).mono ?_
      rw [HIN.out]
      rintro e w2 ⟨rfl, rfl⟩
      go_wp2
      refine bodyPost_ret (v := .tuple #[.agg #[.int .i64 0, .slice none 0 0], .int .i64 211]) (by simp [results, Tryz.results240, go_sem, c0, c1]) rfl ⟨none, 0, 0, rfl, fun _ _ => Is.nil _ _, Nat.le_refl _, ((HB.out.setCell (Nat.le_refl _) _).setCell (Nat.le_refl _) _)⟩
  · rw [he, if_pos rfl, if_pos rfl]
    clear he
    have HE := Lib.hid (show eqB ((l.drop (a + u)).take k) (List.replicate k 0) = true from decide_eq_true h4)
    clear h4
    have hm : ((a : Int) % (v : Int) != 0) = false := by simp; omega
    have hx : decide ((a : Int) < (v : Int)) = false := by simp; omega
    clear h1
    go_enter Tryz.func240, Tryz.ntmps240
    go_wp2_with fail
    go_at_call 47
    refine (load_spec A _ c ((a : Int) - v) v l _ HI.out hc (by omega)).mono ?_
    rw [HU.out]
    obtain ⟨er, her⟩ : ∃ er, loadE l.length ((a : Int) - v) v = er := ⟨_, rfl⟩
    rw [her]
    rintro e w1 ⟨rfl, hb⟩
    have HB := Lib.hid (pure_below HB.out hb)
    have HI := Lib.hid (HI.out.pure hb)
    have HK := Lib.hid (HK.out.pure hb)
    have c0 : w1.cell? ⟨w.heap.size, 0, none⟩ = some (.int .i64 0) := HK.out.cell 0
    have c1 : w1.cell? ⟨w.heap.size, 1, none⟩ = some (.slice none 0 0) := HK.out.cell 1
    have f0 := HK.out.frozen 0
    have f1 := HK.out.frozen 1
    have hn63 : l.length ≤ 9223372036854775807 := by omega
    have HWL := Lib.hid (u64_in (l.length : Int) (by omega))
    clear hb her
    have hd : decide (l.length < u) = false := decide_eq_false (by omega)
    have hd2 : u ≤ l.length := by omega
    obtain ⟨T, hT⟩ : ∃ T, T = a + u := ⟨_, rfl⟩
    obtain ⟨T2, hT2⟩ : ∃ T2, T2 = T + k := ⟨_, rfl⟩
    obtain ⟨Z, hZ1, hZ2, hmk⟩ := make_b k (by omega)
    obtain ⟨X, hX1, hX2⟩ := cut_any A l.length c T T2 (by omega) (by omega) hc
    obtain ⟨Y, hY1, hY2⟩ := cut_full A l.length c a T (by omega) (by omega) hc
    have HIN := Lib.hid (show inB l.length a ((u : Int) + k) = true from inB_iff.2 ⟨by omega, by omega, by omega⟩)
    have W2 := Lib.hid (wrap64_in (u : Int) (by omega))
    have W3 := Lib.hid (wrap64_in ((u : Int) + k) (by omega))
    have W4 := Lib.hid ((wrap64_in ((a : Int) + u) (by omega)).trans (show (a : Int) + u = (T : Int) by omega))
    have W5 := Lib.hid ((IntWalk.i64_in ((T : Int) + (k : Int)) (by omega)).trans (show (T : Int) + k = (T2 : Int) by omega))
    have W6 := Lib.hid ((wrap64_in ((T : Int) + (k : Int)) (by omega)).trans (show (T : Int) + k = (T2 : Int) by omega))
    have s0 : (0 : Int) ≤ T := by omega
    have s1 : (T : Int) ≤ T2 := by omega
    have s2 : (T2 : Int) ≤ c := by omega
    have s3 : (0 : Int) ≤ k := by omega
    rw [show T2 - T = k by omega] at hX1 hX2
    rw [show T - a = u by omega] at hY1 hY2
    have HX2 := Lib.hid hX2
    have HY2 := Lib.hid hY2
    have HZ2 := Lib.hid hZ2
    have HAU := Lib.hid (show (a : Int) + u = (T : Int) by omega)
    have HT := Lib.hid hT
    rw [← hT] at HE
    have HT2 := Lib.hid hT2
    clear hX2 hY2 hZ1 hZ2 hT hT2 h3
    have hw2 := W2.out
    have hw3 := W3.out
    have hwl := HWL.out
    go_wp2_with fail
    go_at_call 35
    refine (inside_spec A _ c a ((u : Int) + k) _ hn63).mono ?_
    rw [HIN.out]
    rintro e w2 ⟨rfl, rfl⟩
    clear hw3
    have hw4 := W4.out
    have hw5 := W5.out
    have hw6 := W6.out
    go_wp2_with fail
    rw [← HAU.out] at hX1 hY1 hw5 hw6
    have HID := Lib.hid (is_drew HI.out)
    go_region_held3 (fun w' => w'.cell? ⟨w.heap.size, 0, none⟩ = some (.int .i64 0) ∧ w'.cell? ⟨w.heap.size, 1, none⟩ = some (.slice none 0 0)) (first | assumption | exact ⟨c0, c1⟩ | exact ⟨cell_pure ((Below.refl _ _).alloc (Nat.le_refl _) _).drew c0, cell_pure ((Below.refl _ _).alloc (Nat.le_refl _) _).drew c1⟩ | exact ⟨cell_pure ((Below.refl _ _).alloc (Nat.le_refl _) _) c0, cell_pure ((Below.refl _ _).alloc (Nat.le_refl _) _) c1⟩)
      (first | (go_at_call 259; refine (bequal_spec X _ k k _ _ ((l.drop T).take k) (List.replicate k 0) _ (HX2.out _ _ (HID.out.alloc _)) (isb_lit _ Z (List.replicate k 0) k (by simp) HZ2.out)).mono ?_; rw [HE.out]; rintro e w5 ⟨rfl, rfl⟩))
    have hbz := (Below.refl w1.heap.size w1).alloc (Nat.le_refl _) (.cells Z 5)
    have d0 := cell_pure hbz (p := ⟨w.heap.size, 0, none⟩) (u := .int .i64 0) c0
    have d1 := cell_pure hbz (p := ⟨w.heap.size, 1, none⟩) (u := .slice none 0 0) c1
    have HF := Lib.hid (HK.out.pure hbz)
    have g0 := HF.out.frozen 0
    have g1 := HF.out.frozen 1
    have HB := Lib.hid (pure_below HB.out hbz.drew)
    have HIz := Lib.hid (HI.out.pure hbz.drew)
    clear hbz c0 c1 f0 f1
    go_wp2
    refine bodyPost_ret (v := .tuple #[.agg #[.int .i64 a, .slice Y u u], .int .i64 0]) (by simp [results, Tryz.results240, go_sem, d0, d1]) rfl ⟨Y, u, u, rfl, ?_, Nat.le_refl _, (HB.out.setCell (Nat.le_refl _) _).setCell (Nat.le_refl _) _⟩
    unfold cntL
    rw [HU.out]
    exact fun _ h => HY2.out _ _ h
  · rw [he, if_neg (by decide), if_neg (by decide)]
    clear he
    have HE := Lib.hid (show eqB ((l.drop (a + u)).take k) (List.replicate k 0) = false from decide_eq_false h4)
    clear h4
    have hm : ((a : Int) % (v : Int) != 0) = false := by simp; omega
    have hx : decide ((a : Int) < (v : Int)) = false := by simp; omega
    clear h1
    go_enter Tryz.func240, Tryz.ntmps240
    go_wp2_with fail
    go_at_call 47
    refine (load_spec A _ c ((a : Int) - v) v l _ HI.out hc (by omega)).mono ?_
    rw [HU.out]
    obtain ⟨er, her⟩ : ∃ er, loadE l.length ((a : Int) - v) v = er := ⟨_, rfl⟩
    rw [her]
    rintro e w1 ⟨rfl, hb⟩
    have HB := Lib.hid (pure_below HB.out hb)
    have HI := Lib.hid (HI.out.pure hb)
    have HK := Lib.hid (HK.out.pure hb)
    have c0 : w1.cell? ⟨w.heap.size, 0, none⟩ = some (.int .i64 0) := HK.out.cell 0
    have c1 : w1.cell? ⟨w.heap.size, 1, none⟩ = some (.slice none 0 0) := HK.out.cell 1
    have f0 := HK.out.frozen 0
    have f1 := HK.out.frozen 1
    have hn63 : l.length ≤ 9223372036854775807 := by omega
    have HWL := Lib.hid (u64_in (l.length : Int) (by omega))
    clear hb her
    have hd : decide (l.length < u) = false := decide_eq_false (by omega)
    have hd2 : u ≤ l.length := by omega
    obtain ⟨T, hT⟩ : ∃ T, T = a + u := ⟨_, rfl⟩
    obtain ⟨T2, hT2⟩ : ∃ T2, T2 = T + k := ⟨_, rfl⟩
    obtain ⟨Z, hZ1, hZ2, hmk⟩ := make_b k (by omega)
    obtain ⟨X, hX1, hX2⟩ := cut_any A l.length c T T2 (by omega) (by omega) hc
    obtain ⟨Y, hY1, hY2⟩ := cut_full A l.length c a T (by omega) (by omega) hc
    have HIN := Lib.hid (show inB l.length a ((u : Int) + k) = true from inB_iff.2 ⟨by omega, by omega, by omega⟩)
    have W2 := Lib.hid (wrap64_in (u : Int) (by omega))
    have W3 := Lib.hid (wrap64_in ((u : Int) + k) (by omega))
    have W4 := Lib.hid ((wrap64_in ((a : Int) + u) (by omega)).trans (show (a : Int) + u = (T : Int) by omega))
    have W5 := Lib.hid ((IntWalk.i64_in ((T : Int) + (k : Int)) (by omega)).trans (show (T : Int) + k = (T2 : Int) by omega))
    have W6 := Lib.hid ((wrap64_in ((T : Int) + (k : Int)) (by omega)).trans (show (T : Int) + k = (T2 : Int) by omega))
    have s0 : (0 : Int) ≤ T := by omega
    have s1 : (T : Int) ≤ T2 := by omega
    have s2 : (T2 : Int) ≤ c := by omega
    have s3 : (0 : Int) ≤ k := by omega
    rw [show T2 - T = k by omega] at hX1 hX2
    rw [show T - a = u by omega] at hY1 hY2
    have HX2 := Lib.hid hX2
    have HY2 := Lib.hid hY2
    have HZ2 := Lib.hid hZ2
    have HAU := Lib.hid (show (a : Int) + u = (T : Int) by omega)
    have HT := Lib.hid hT
    rw [← hT] at HE
    have HT2 := Lib.hid hT2
    clear hX2 hY2 hZ1 hZ2 hT hT2 h3
    have hw2 := W2.out
    have hw3 := W3.out
    have hwl := HWL.out
    go_wp2_with fail
    go_at_call 35
    refine (inside_spec A _ c a ((u : Int) + k) _ hn63).mono ?_
    rw [HIN.out]
    rintro e w2 ⟨rfl, rfl⟩
    clear hw3
    have hw4 := W4.out
    have hw5 := W5.out
    have hw6 := W6.out
    go_wp2_with fail
    rw [← HAU.out] at hX1 hY1 hw5 hw6
    have HID := Lib.hid (is_drew HI.out)
    go_region_held3 (fun w' => w'.cell? ⟨w.heap.size, 0, none⟩ = some (.int .i64 0) ∧ w'.cell? ⟨w.heap.size, 1, none⟩ = some (.slice none 0 0)) (first | assumption | exact ⟨c0, c1⟩ | exact ⟨cell_pure ((Below.refl _ _).alloc (Nat.le_refl _) _).drew c0, cell_pure ((Below.refl _ _).alloc (Nat.le_refl _) _).drew c1⟩ | exact ⟨cell_pure ((Below.refl _ _).alloc (Nat.le_refl _) _) c0, cell_pure ((Below.refl _ _).alloc (Nat.le_refl _) _) c1⟩)
      (first | (go_at_call 259; refine (bequal_spec X _ k k _ _ ((l.drop T).take k) (List.replicate k 0) _ (HX2.out _ _ (HID.out.alloc _)) (isb_lit _ Z (List.replicate k 0) k (by simp) HZ2.out)).mono ?_; rw [HE.out]; rintro e w5 ⟨rfl, rfl⟩))
    have hbz := (Below.refl w1.heap.size w1).alloc (Nat.le_refl _) (.cells Z 5)
    have d0 := cell_pure hbz (p := ⟨w.heap.size, 0, none⟩) (u := .int .i64 0) c0
    have d1 := cell_pure hbz (p := ⟨w.heap.size, 1, none⟩) (u := .slice none 0 0) c1
    have HF := Lib.hid (HK.out.pure hbz)
    have g0 := HF.out.frozen 0
    have g1 := HF.out.frozen 1
    have HB := Lib.hid (pure_below HB.out hbz.drew)
    have HIz := Lib.hid (HI.out.pure hbz.drew)
    clear hbz c0 c1 f0 f1
    go_wp2
    refine bodyPost_ret (v := .tuple #[.agg #[.int .i64 0, .slice none 0 0], .int .i64 213]) (by simp [results, Tryz.results240, go_sem, d0, d1]) rfl ⟨none, 0, 0, rfl, fun _ _ => Is.nil _ _, Nat.le_refl _, (HB.out.setCell (Nat.le_refl _) _).setCell (Nat.le_refl _) _⟩
end Go.Proofs.YtfoifdoaleaekaaGreat

namespace Go.Proofs.YtfoifdoaleaekaaGreat
open Go.RowKit Go.Acc
def isIn (ts : List Nat) (t : Int) : Bool := ts.contains t.toNat
def fndE (l : List UInt8) (p q t v : Int) (ts : List Nat) : Int :=
  if mayE l.length p q t v ≠ 0 then mayE l.length p q t v
  else if isIn ts t = false then 60
  else if tgtE l p q t v ≠ 0 then tgtE l p q t v
  else if t = 4 then keyE l (tgt l p q t v).toNat
  else cntE l (tgt l p q t v).toNat v.toNat (if t = 5 then 1 else 0)
def fndA (l : List UInt8) (p q t v : Int) (ts : List Nat) : Int := if fndE l p q t v ts = 0 then tgt l p q t v else 0
def fndL (l : List UInt8) (p q t v : Int) (ts : List Nat) : List UInt8 :=
  if fndE l p q t v ts = 0 then (if t = 4 then keyL l (tgt l p q t v).toNat else cntL l (tgt l p q t v).toNat v.toNat) else []
theorem in_bytes {ts : List Nat} {t : Int} (hts : ∀ x ∈ ts, x < 256) (h0 : 0 ≤ t) (h1 : t < 37) : (ts.map UInt8.ofNat).contains (UInt8.ofNat t.toNat) = isIn ts t := by
  unfold isIn
  induction ts with
  | nil => simp
  | cons x ts ih =>
    rw [List.map_cons, List.contains_cons, List.contains_cons, ih (fun y hy => hts y (List.mem_cons_of_mem _ hy))]
    congr 1
    have hx := hts x (List.mem_cons_self ..)
    rw [Bool.eq_iff_iff]
    simp only [beq_iff_eq]
    constructor
    · intro e
      have := congrArg UInt8.toNat e
      rw [UInt8.toNat_ofNat', UInt8.toNat_ofNat'] at this
      omega
    · intro e; rw [e]
theorem tgt_rng {l : List UInt8} {p q t v : Int} (h : tgtE l p q t v = 0) : 0 ≤ tgt l p q t v ∧ tgt l p q t v ≤ l.length := by
  have hm : mayE l.length p q t v = 0 := by
    by_cases e : mayE l.length p q t v = 0
    · exact e
    · rw [tgtE_may e] at h; exact absurd h e
  obtain ⟨_, h2⟩ := mayE_ok.1 hm
  obtain ⟨h1, _⟩ := mayE_ok.1 hm
  have h2 := inB_iff.1 h2
  have h1 := formed_iff.1 h1
  have hq := isW_iff.1 h1.2.1
  unfold tgtE at h
  rw [if_pos hm] at h
  unfold tgt
  have h' : tgtE l p q t v = 0 := by unfold tgtE; rw [if_pos hm]; exact h
  rw [if_pos h']
  split at h
  · cases h
  · split at h
    · cases h
    · omega
theorem found_no {w w' : World} {A : Option Addr} {n : Nat} {l : List UInt8} {p q t v er : Int} {ts : List Nat} (h : fndE l p q t v ts = er) (hne : er ≠ 0) (hb : Below w.heap.size w w') : FoundW w A n l (fndA l p q t v ts) (fndL l p q t v ts) (fndE l p q t v ts) (.returned (.tuple #[.agg #[.int .i64 0, .slice none 0 0], .int .i64 er])) w' := by
  unfold fndA fndL
  rw [h, if_neg hne, if_neg hne]
  exact ⟨none, 0, 0, rfl, fun _ _ => Is.nil _ _, Nat.le_refl _, hb⟩
theorem counted_spec2 (A : Option Addr) (n c a V K : Nat) (v k : Int) (l : List UInt8) (w : World) (h : IsB w A n l) (hc : n ≤ c) (ha : a ≤ n) (hn : n ≤ 1099511627776) (hv : isW (V : Int) = true) (hk : K ≤ 1) (hv2 : v = V) (hk2 : k = K) :
    Calls Tryz.prog 240 #[.slice A n c, .int .i64 a, .int .i64 v, .int .i64 k] w (FoundW w A n l (if cntE l a V K = 0 then a else 0) (if cntE l a V K = 0 then cntL l a V else []) (cntE l a V K)) := by
  subst hv2 hk2
  exact counted_spec A n c a V K l w h hc ha hn hv hk
set_option maxHeartbeats 2000000 in
theorem find_spec (A : Option Addr) (n c : Nat) (p q t v : Int) (T : Option Addr) (m d : Nat) (ts : List Nat) (l : List UInt8) (w : World) (h : IsB w A n l) (hT : Is tc w T m ts) (hc : n ≤ c) (hn : n ≤ 1099511627776) (hm : 0 < m ∧ m ≤ 100) (hts : ∀ x ∈ ts, x < 256) :
    Calls Tryz.prog 206 #[.slice A n c, .agg #[.int .i64 p, .int .i64 q, .int .i64 t, .int .i64 v], .slice T m d] w (FoundW w A n l (fndA l p q t v ts) (fndL l p q t v ts) (fndE l p q t v ts)) := by
  have hlen := h.1
  subst hlen
  have HL := Lib.hid ((h.alloc (.cells #[.int .i64 p, .int .i64 q, .int .i64 t, .int .i64 v] 36)).alloc (.cells #[.int .i64 0, .slice none 0 0] 257))
  have HTY := Lib.hid ((hT.alloc (.cells #[.int .i64 p, .int .i64 q, .int .i64 t, .int .i64 v] 36)).alloc (.cells #[.int .i64 0, .slice none 0 0] 257))
  have HK := Lib.hid ((Blk.new w 36 #[.int .i64 p, .int .i64 q, .int .i64 t, .int .i64 v]).alloc (.cells #[.int .i64 0, .slice none 0 0] 257))
  have HR := Lib.hid (Blk.new_ (w := w.alloc (.cells #[.int .i64 p, .int .i64 q, .int .i64 t, .int .i64 v] 36)) (g := w.heap.size + 1) (by simp) 257 #[.int .i64 0, .slice none 0 0])
  have HB := Lib.hid (((Below.refl w.heap.size w).alloc (Nat.le_refl _) (.cells #[.int .i64 p, .int .i64 q, .int .i64 t, .int .i64 v] 36)).alloc (by simp) (.cells #[.int .i64 0, .slice none 0 0] 257))
  have HTS := Lib.hid hts
  have hn63 : l.length ≤ 9223372036854775807 := by omega
  have hm1 := hm.1
  have hm2 := hm.2
  have HL0 := Lib.hid h
  clear h hT hts hm
  go_enter Tryz.func206, Tryz.ntmps206
  go_wp2_with fail
  go_at_call 14
  refine (may_spec A _ c p q t v _ hn63).mono ?_
  rintro e w1 ⟨rfl, hb⟩
  by_cases hmay : mayE l.length p q t v = 0
  · rw [hmay]
    have HB := Lib.hid (pure_below HB.out hb); have HK := Lib.hid (HK.out.pure hb); have HL := Lib.hid (HL.out.pure hb); have HTY := Lib.hid (HTY.out.pure hb); have HR := Lib.hid (HR.out.pure hb); have c0 := cell0 HK.out; have c1 := cell1 HK.out; have c2 := cell2 HK.out; have c3 := cell3 HK.out; have f0 := HR.out.frozen 0; have f1 := HR.out.frozen 1; have d0 : _ = some (Value.int .i64 0) := HR.out.cell 0; have d1 : _ = some (Value.slice none 0 0) := HR.out.cell 1; clear hb
    have ht37 := isT_iff.1 (legal_isT (formed_iff.1 (mayE_ok.1 hmay).1).1)
    have ht0 := ht37.1
    have ht1 := ht37.2
    have HIN := Lib.hid ((idx_neg (ts.map UInt8.ofNat) (UInt8.ofNat t.toNat)).trans (by rw [in_bytes HTS.out ht0 ht1]))
    have hwt : IntKind.u8.wrap t = ((UInt8.ofNat t.toNat).toNat : Int) := by
      rw [IntKind.wrap_u8, UInt8.toNat_ofNat']
      omega
    have HWT := Lib.hid hwt
    clear ht37 hwt
    go_wp2_with fail
    have HTYD : Hid (Is tc w1.drew T m ts) := Lib.hid (show Is tc w1 T m ts from HTY.out)
    go_region_held3 (fun w' => w'.cell? ⟨w.heap.size, 2, none⟩ = some (.int .i64 t)) (first | assumption | exact cell_pure HB5.out c2)
      (first
      | (go_at_call 238; refine (asb_spec T m d ts _ HTYD.out hm2 HTS.out).mono ?_; rintro e w5 ⟨AX, nX, cX, rfl, hOX, hb5⟩; have HOX := Lib.hid hOX; have HB5 := Lib.hid hb5; clear hOX hb5)
      | (go_at_call 237; refine (bidx_spec AX nX cX _ (UInt8.ofNat t.toNat) _ _ HOX.out.is (by have h1 := HOX.out.1; have h2 := HTYD.out.1; rw [List.length_map] at h1; omega) HWT.out).mono ?_; rintro e w6 ⟨rfl, rfl⟩))
    have hb := pure_below (Below.refl w1.heap.size w1).drew HB5.out
    rw [HIN.out]
    clear c0 c1 c2 c3 f0 f1 d0 d1
    have HB := Lib.hid (pure_below HB.out hb); have HK := Lib.hid (HK.out.pure hb); have HL := Lib.hid (HL.out.pure hb); have HTY := Lib.hid (HTY.out.pure hb); have HR := Lib.hid (HR.out.pure hb); have c0 := cell0 HK.out; have c1 := cell1 HK.out; have c2 := cell2 HK.out; have c3 := cell3 HK.out; have f0 := HR.out.frozen 0; have f1 := HR.out.frozen 1; have d0 : _ = some (Value.int .i64 0) := HR.out.cell 0; have d1 : _ = some (Value.slice none 0 0) := HR.out.cell 1; clear hb
    clear HOX HB5 HTYD HWT HIN
    cases hin : isIn ts t with
    | false =>
      have HE := Lib.hid (show fndE l p q t v ts = 60 by unfold fndE; rw [if_neg (by simpa using hmay), if_pos hin])
      clear hin hmay
      go_wp2
      refine bodyPost_ret (v := .tuple #[.agg #[.int .i64 0, .slice none 0 0], .int .i64 (60)]) (by simp [results, Tryz.results206, go_sem, d0, d1]) rfl ?_
      exact found_no HE.out (by decide) ((HB.out.setCell (Nat.le_succ _) _).setCell (Nat.le_succ _) _)
    | true =>
      have HE0 := Lib.hid (show fndE l p q t v ts = if tgtE l p q t v ≠ 0 then tgtE l p q t v else if t = 4 then keyE l (tgt l p q t v).toNat else cntE l (tgt l p q t v).toNat v.toNat (if t = 5 then 1 else 0) by unfold fndE; rw [if_neg (by simpa using hmay), if_neg (by simp [hin])])
      clear hin
      have hv8 := (formed_iff.1 (mayE_ok.1 hmay).1).2.2
      obtain ⟨V, hV⟩ : ∃ V : Nat, v = V := ⟨v.toNat, by have := isW_iff.1 hv8; omega⟩
      have HV := Lib.hid (show isW (V : Int) = true by rw [← hV]; exact hv8)
      have HVE := Lib.hid hV
      have hvn : v.toNat = V := by omega
      rw [hvn] at HE0
      clear hmay hv8 hV
      go_wp2_with fail
      go_at_call 16
      refine (target_spec A _ c p q t v l _ HL.out hc hn63).mono ?_
      rintro e w2 ⟨rfl, hb⟩
      clear c0 c1 c2 c3 f0 f1 d0 d1
      have HB := Lib.hid (pure_below HB.out hb); have HK := Lib.hid (HK.out.pure hb); have HL := Lib.hid (HL.out.pure hb); have HTY := Lib.hid (HTY.out.pure hb); have HR := Lib.hid (HR.out.pure hb); have c0 := cell0 HK.out; have c1 := cell1 HK.out; have c2 := cell2 HK.out; have c3 := cell3 HK.out; have f0 := HR.out.frozen 0; have f1 := HR.out.frozen 1; have d0 : _ = some (Value.int .i64 0) := HR.out.cell 0; have d1 : _ = some (Value.slice none 0 0) := HR.out.cell 1; clear hb
      by_cases hte : tgtE l p q t v = 0
      · rw [hte]
        have HE1 := Lib.hid (show fndE l p q t v ts = if t = 4 then keyE l (tgt l p q t v).toNat else cntE l (tgt l p q t v).toNat V (if t = 5 then 1 else 0) by rw [HE0.out, if_neg (by simpa using hte)])
        have hr := tgt_rng hte
        have HG := Lib.hid (show ∀ er : Int, fndE l p q t v ts = er → fndA l p q t v ts = (if er = 0 then tgt l p q t v else 0) ∧ fndL l p q t v ts = (if er = 0 then (if t = 4 then keyL l (tgt l p q t v).toNat else cntL l (tgt l p q t v).toNat V) else []) from fun er h => ⟨by unfold fndA; rw [h], by unfold fndL; rw [h, hvn]⟩)
        obtain ⟨a, ha⟩ : ∃ a : Nat, tgt l p q t v = a := ⟨(tgt l p q t v).toNat, by omega⟩
        rw [ha] at HG HE1 hr ⊢
        have hal : a ≤ l.length := by omega
        clear hte hr HE0 ha
        by_cases h4 : t = 4
        · have HE2 := Lib.hid (HE1.out.trans (if_pos h4))
          have e4 : (t == 4) = true := beq_iff_eq.2 h4
          have H4 := Lib.hid h4
          clear h4
          go_wp2_with fail
          obtain ⟨ka, hka⟩ : ∃ x, (if keyE l a = 0 then (a : Int) else 0) = x := ⟨_, rfl⟩
          obtain ⟨kl, hkl⟩ : ∃ x, (if keyE l a = 0 then keyL l a else []) = x := ⟨_, rfl⟩
          obtain ⟨ke, hke⟩ : ∃ x, keyE l a = x := ⟨_, rfl⟩
          have HP := Lib.hid (show fndA l p q t v ts = ka ∧ fndL l p q t v ts = kl ∧ fndE l p q t v ts = ke from by
            have hg := HG.out _ HE2.out
            rw [Int.toNat_natCast, if_pos H4.out] at hg
            exact ⟨hg.1.trans hka, hg.2.trans hkl, HE2.out.trans hke⟩)
          go_at_call 239
          refine (key_spec A _ c a l _ HL.out hc hal hn63).mono ?_
          rw [hka, hkl, hke]
          clear hka hkl hke
          rintro e w3 ⟨AY, nY, cY, rfl, hY, hcY, hb⟩
          clear c0 c1 c2 c3 f0 f1 d0 d1
          have HB := Lib.hid (pure_below HB.out hb); have HK := Lib.hid (HK.out.pure hb); have HL := Lib.hid (HL.out.pure hb); have HTY := Lib.hid (HTY.out.pure hb); have HR := Lib.hid (HR.out.pure hb); have c0 := cell0 HK.out; have c1 := cell1 HK.out; have c2 := cell2 HK.out; have c3 := cell3 HK.out; have f0 := HR.out.frozen 0; have f1 := HR.out.frozen 1; have d0 : _ = some (Value.int .i64 0) := HR.out.cell 0; have d1 : _ = some (Value.slice none 0 0) := HR.out.cell 1; clear hb
          have HY := Lib.hid hY
          clear hY
          go_wp2
          refine bodyPost_ret (v := .tuple #[.agg #[.int .i64 ka, .slice AY nY cY], .int .i64 ke]) (by simp [results, Tryz.results206, go_sem, d0, d1]) rfl ?_
          rw [HP.out.1, HP.out.2.1, HP.out.2.2]
          exact ⟨AY, nY, cY, rfl, HY.out, hcY, (HB.out.setCell (Nat.le_succ _) _).setCell (Nat.le_succ _) _⟩
        · have e4 : (t == 4) = false := beq_eq_false_iff_ne.2 h4
          by_cases h5 : t = 5
          · have HE2 := Lib.hid ((HE1.out.trans (if_neg h4)).trans (by rw [if_pos h5]))
            have e5 : (t == 5) = true := beq_iff_eq.2 h5
            have H4 := Lib.hid h4
            clear h4 h5
            go_wp2_with fail
            obtain ⟨ka, hka⟩ : ∃ x, (if cntE l a V 1 = 0 then (a : Int) else 0) = x := ⟨_, rfl⟩
            obtain ⟨kl, hkl⟩ : ∃ x, (if cntE l a V 1 = 0 then cntL l a V else []) = x := ⟨_, rfl⟩
            obtain ⟨ke, hke⟩ : ∃ x, cntE l a V 1 = x := ⟨_, rfl⟩
            have HP := Lib.hid (show fndA l p q t v ts = ka ∧ fndL l p q t v ts = kl ∧ fndE l p q t v ts = ke from by
              have hg := HG.out _ HE2.out
              rw [Int.toNat_natCast, if_neg H4.out] at hg
              rw [Int.toNat_natCast] at HE2
              exact ⟨hg.1.trans hka, hg.2.trans hkl, HE2.out.trans hke⟩)
            go_at_call 240
            refine (counted_spec2 A _ c a V 1 v 1 l _ HL.out hc hal hn HV.out (by omega) HVE.out rfl).mono ?_
            rw [hka, hkl, hke]
            clear hka hkl hke
            rintro e w3 ⟨AY, nY, cY, rfl, hY, hcY, hb⟩
            clear c0 c1 c2 c3 f0 f1 d0 d1
            have HB := Lib.hid (pure_below HB.out hb); have HK := Lib.hid (HK.out.pure hb); have HL := Lib.hid (HL.out.pure hb); have HTY := Lib.hid (HTY.out.pure hb); have HR := Lib.hid (HR.out.pure hb); have c0 := cell0 HK.out; have c1 := cell1 HK.out; have c2 := cell2 HK.out; have c3 := cell3 HK.out; have f0 := HR.out.frozen 0; have f1 := HR.out.frozen 1; have d0 : _ = some (Value.int .i64 0) := HR.out.cell 0; have d1 : _ = some (Value.slice none 0 0) := HR.out.cell 1; clear hb
            have HY := Lib.hid hY
            clear hY
            go_wp2
            refine bodyPost_ret (v := .tuple #[.agg #[.int .i64 ka, .slice AY nY cY], .int .i64 ke]) (by simp [results, Tryz.results206, go_sem, d0, d1]) rfl ?_
            rw [HP.out.1, HP.out.2.1, HP.out.2.2]
            exact ⟨AY, nY, cY, rfl, HY.out, hcY, (HB.out.setCell (Nat.le_succ _) _).setCell (Nat.le_succ _) _⟩
          · have HE2 := Lib.hid ((HE1.out.trans (if_neg h4)).trans (by rw [if_neg h5]))
            have e5 : (t == 5) = false := beq_eq_false_iff_ne.2 h5
            have H4 := Lib.hid h4
            clear h4 h5
            go_wp2_with fail
            obtain ⟨ka, hka⟩ : ∃ x, (if cntE l a V 0 = 0 then (a : Int) else 0) = x := ⟨_, rfl⟩
            obtain ⟨kl, hkl⟩ : ∃ x, (if cntE l a V 0 = 0 then cntL l a V else []) = x := ⟨_, rfl⟩
            obtain ⟨ke, hke⟩ : ∃ x, cntE l a V 0 = x := ⟨_, rfl⟩
            have HP := Lib.hid (show fndA l p q t v ts = ka ∧ fndL l p q t v ts = kl ∧ fndE l p q t v ts = ke from by
              have hg := HG.out _ HE2.out
              rw [Int.toNat_natCast, if_neg H4.out] at hg
              rw [Int.toNat_natCast] at HE2
              exact ⟨hg.1.trans hka, hg.2.trans hkl, HE2.out.trans hke⟩)
            go_at_call 240
            refine (counted_spec2 A _ c a V 0 v 0 l _ HL.out hc hal hn HV.out (by omega) HVE.out rfl).mono ?_
            rw [hka, hkl, hke]
            clear hka hkl hke
            rintro e w3 ⟨AY, nY, cY, rfl, hY, hcY, hb⟩
            clear c0 c1 c2 c3 f0 f1 d0 d1
            have HB := Lib.hid (pure_below HB.out hb); have HK := Lib.hid (HK.out.pure hb); have HL := Lib.hid (HL.out.pure hb); have HTY := Lib.hid (HTY.out.pure hb); have HR := Lib.hid (HR.out.pure hb); have c0 := cell0 HK.out; have c1 := cell1 HK.out; have c2 := cell2 HK.out; have c3 := cell3 HK.out; have f0 := HR.out.frozen 0; have f1 := HR.out.frozen 1; have d0 : _ = some (Value.int .i64 0) := HR.out.cell 0; have d1 : _ = some (Value.slice none 0 0) := HR.out.cell 1; clear hb
            have HY := Lib.hid hY
            clear hY
            go_wp2
            refine bodyPost_ret (v := .tuple #[.agg #[.int .i64 ka, .slice AY nY cY], .int .i64 ke]) (by simp [results, Tryz.results206, go_sem, d0, d1]) rfl ?_
            rw [HP.out.1, HP.out.2.1, HP.out.2.2]
            exact ⟨AY, nY, cY, rfl, HY.out, hcY, (HB.out.setCell (Nat.le_succ _) _).setCell (Nat.le_succ _) _⟩
      · have HE := Lib.hid (show fndE l p q t v ts = tgtE l p q t v by rw [HE0.out, if_pos hte])
        have HNE := Lib.hid hte
        have hne : (tgtE l p q t v != 0) = true := by simpa using hte
        clear hte
        go_wp2
        refine bodyPost_ret (v := .tuple #[.agg #[.int .i64 0, .slice none 0 0], .int .i64 ((tgtE l p q t v))]) (by simp [results, Tryz.results206, go_sem, d0, d1]) rfl ?_
        exact found_no HE.out HNE.out ((HB.out.setCell (Nat.le_succ _) _).setCell (Nat.le_succ _) _)
  · have HE := Lib.hid (show fndE l p q t v ts = mayE l.length p q t v by unfold fndE; rw [if_pos hmay])
    have HNE := Lib.hid hmay
    have hne : (mayE l.length p q t v != 0) = true := by simpa using hmay
    have HB := Lib.hid (pure_below HB.out hb); have HK := Lib.hid (HK.out.pure hb); have HL := Lib.hid (HL.out.pure hb); have HTY := Lib.hid (HTY.out.pure hb); have HR := Lib.hid (HR.out.pure hb); have c0 := cell0 HK.out; have c1 := cell1 HK.out; have c2 := cell2 HK.out; have c3 := cell3 HK.out; have f0 := HR.out.frozen 0; have f1 := HR.out.frozen 1; have d0 : _ = some (Value.int .i64 0) := HR.out.cell 0; have d1 : _ = some (Value.slice none 0 0) := HR.out.cell 1; clear hb
    clear hmay
    go_wp2
    refine bodyPost_ret (v := .tuple #[.agg #[.int .i64 0, .slice none 0 0], .int .i64 ((mayE l.length p q t v))]) (by simp [results, Tryz.results206, go_sem, d0, d1]) rfl ?_
    exact found_no HE.out HNE.out ((HB.out.setCell (Nat.le_succ _) _).setCell (Nat.le_succ _) _)
end Go.Proofs.YtfoifdoaleaekaaGreat

namespace Go.Proofs.YtfoifdoaleaekaaGreat
open Go.RowKit Go.Acc
theorem istc {w : World} {g n : Nat} (ts : List Nat) (vs : Array Value) (hB : Blk w g 3 vs) (hn : ts.length = n) (h : vs.toList = ts.flatMap tc) : Is tc w (some ⟨g, 0, none⟩) n ts := by
  refine ⟨hn, fun j u hu => ⟨_, _, rfl, ?_⟩⟩
  rw [Nat.zero_add, hB.cell j]
  rw [← h] at hu
  simpa using hu
set_option maxHeartbeats 1000000 in
theorem text_spec (A : Option Addr) (n c : Nat) (p q t v : Int) (T : Option Addr) (m d : Nat) (ts : List Nat) (l : List UInt8) (w : World) (h : IsB w A n l) (hT : Is tc w T m ts) (hc : n ≤ c) (hn : n ≤ 1099511627776) (hm : 0 < m ∧ m ≤ 100) (hts : ∀ x ∈ ts, x < 256) :
    Calls Tryz.prog 144 #[.slice A n c, .agg #[.int .i64 p, .int .i64 q, .int .i64 t, .int .i64 v], .slice T m d] w fun e w' => e = .returned (.tuple #[.string ⟨(fndL l p q t v ts).toArray⟩, .int .i64 (fndE l p q t v ts)]) ∧ Below w.heap.size w w' := by
  have HL := Lib.hid (h.alloc (.cells #[.int .i64 p, .int .i64 q, .int .i64 t, .int .i64 v] 36))
  have HT := Lib.hid (hT.alloc (.cells #[.int .i64 p, .int .i64 q, .int .i64 t, .int .i64 v] 36))
  have HB := Lib.hid ((Below.refl w.heap.size w).alloc (Nat.le_refl _) (.cells #[.int .i64 p, .int .i64 q, .int .i64 t, .int .i64 v] 36))
  have HTS := Lib.hid hts
  have HL0 := Lib.hid h
  clear h hT hts
  go_enter Tryz.func144, Tryz.ntmps144
  go_wp2_with fail
  go_at_call 206
  refine (find_spec A n c p q t v T m d ts l _ HL.out HT.out hc hn hm HTS.out).mono ?_
  rintro e w1 ⟨AX, nX, cX, rfl, hX, hcX, hb⟩
  have HB := Lib.hid (pure_below HB.out hb)
  have hst := run_str (c := cX) ((hX w HL0.out).pure (HB.out.alloc HB.out.size (.cells #[.int .i64 (fndA l p q t v ts), .slice AX nX cX] 257)))
  clear hX hb
  go_wp2
  go_ret2
  exact ⟨rfl, HB.out.alloc HB.out.size _⟩
set_option maxHeartbeats 1000000 in
theorem keyt_spec (A : Option Addr) (n c : Nat) (p q t v : Int) (l : List UInt8) (w : World) (h : IsB w A n l) (hc : n ≤ c) (hn : n ≤ 1099511627776) :
    Calls Tryz.prog 97 #[.slice A n c, .agg #[.int .i64 p, .int .i64 q, .int .i64 t, .int .i64 v]] w fun e w' => e = .returned (.tuple #[.string ⟨(fndL l p q t v [4]).toArray⟩, .int .i64 (fndE l p q t v [4])]) ∧ Below w.heap.size w w' := by
  have HL := Lib.hid ((h.alloc (.cells #[.int .i64 p, .int .i64 q, .int .i64 t, .int .i64 v] 36)).alloc (.cells #[.int .i64 4] 3))
  have HT := Lib.hid (istc (w := (w.alloc (.cells #[.int .i64 p, .int .i64 q, .int .i64 t, .int .i64 v] 36)).alloc (.cells #[.int .i64 4] 3)) (g := w.heap.size + 1) (n := 1) [4] _ (Blk.new_ (by simp) _ _) rfl rfl)
  have HB := Lib.hid (((Below.refl w.heap.size w).alloc (Nat.le_refl _) (.cells #[.int .i64 p, .int .i64 q, .int .i64 t, .int .i64 v] 36)).alloc (by simp) (.cells #[.int .i64 4] 3))
  clear h
  go_enter Tryz.func97, Tryz.ntmps97
  go_wp2_with fail
  go_at_call 144
  refine (text_spec A n c p q t v _ 1 1 [4] l _ HL.out HT.out hc hn (by decide) (by decide)).mono ?_
  rintro e w1 ⟨rfl, hb⟩
  have HB := Lib.hid (pure_below HB.out hb)
  clear hb
  go_wp2
  go_ret2
  exact ⟨rfl, HB.out⟩
end Go.Proofs.YtfoifdoaleaekaaGreat
