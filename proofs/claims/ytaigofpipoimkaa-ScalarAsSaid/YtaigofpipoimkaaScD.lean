/-
  Package scalar: what a number's reference leads to.
-/
import Derived.Test.YtaigofpipoimkaaScC
namespace Go.Proofs.Ytaigofpipoimkaa
open Go.RowKit Go.Acc
def rdN (l : List UInt8) (t a x : Int) : Bool := decide ((t = 1 ∨ t = 6) ∧ loadI l a x < 0)
def rdU (l : List UInt8) (t a x : Int) : Nat := if t = 0 then 0 else if t = 26 then min (loadU l a x) 1 else if t = 1 ∨ t = 6 then (loadI l a x).natAbs else loadU l a x
/-- The sign and the amount that a reference leads to. -/
def scN (l : List UInt8) (p q t v : Int) : Bool := decide (plcE l p q t v = 0) && rdN l t (plcA l p q t v) (plcW l p q t v)
def scU (l : List UInt8) (p q t v : Int) : Nat := if plcE l p q t v = 0 then rdU l t (plcA l p q t v) (plcW l p q t v) else 0
theorem cell_far {w : World} {p q : Addr} {u v : Value} (h : q.block ≠ p.block) (hc : w.cell? q = some v) : (w.setCell p u).cell? q = some v :=
  (World.cell?_of_block (w := w) (Below.heap_setCell w p u q.block h)).trans hc
theorem rd_look2 {t : Int} {F : Value} (h : rdF t = some F) (W : World) (g : Nat) (hb : W.heap[g]? = some (.map rdEs 6)) :
    (Instr.lookup 126 (.map (some g)) (.int .i64 t) false).run Try.prog W = .ok F W := by
  have := rd_look t W g hb false
  rw [h] at this
  exact this
theorem plc_isS {l : List UInt8} {p q t v : Int} (h : plcE l p q t v = 0) : isS t = true := by
  rcases plc_cases l p q t v with ⟨h1, e⟩ | ⟨_, ⟨_, e⟩ | ⟨h1, _⟩ | ⟨h1, _⟩⟩
  · rw [e] at h; exact absurd h h1
  · rw [e] at h; cases h
  · exact h1
  · exact h1
set_option maxRecDepth 100000 in
set_option maxHeartbeats 1000000 in
theorem read_spec (A : Option Addr) (n c : Nat) (p q t v : Int) (l : List UInt8) (w : World) (h : IsB w A n l) (hc : n ≤ c) (hn : n ≤ 9223372036854775807) :
    Calls Try.prog 74 #[.slice A n c, .agg #[.int .i64 p, .int .i64 q, .int .i64 t, .int .i64 v]] w fun e w' => e = .returned (.tuple #[valV (scN l p q t v) (scU l p q t v), .int .i64 (plcE l p q t v)]) ∧ Below w.heap.size w w' := by
  have hlen := h.1
  subst hlen
  have HL := Lib.hid ((h.alloc (.cells #[.int .i64 p, .int .i64 q, .int .i64 t, .int .i64 v] 23)).alloc (.cells #[.bool false, .int .u64 0] 83))
  have HB := Lib.hid (((Below.refl w.heap.size w).alloc (Nat.le_refl _) (.cells #[.int .i64 p, .int .i64 q, .int .i64 t, .int .i64 v] 23)).alloc (by simp) (.cells #[.bool false, .int .u64 0] 83))
  have HX := Lib.hid ((Blk.new w 23 #[.int .i64 p, .int .i64 q, .int .i64 t, .int .i64 v]).alloc (.cells #[.bool false, .int .u64 0] 83))
  have HK := Lib.hid (Blk.new_ (w := w.alloc (.cells #[.int .i64 p, .int .i64 q, .int .i64 t, .int .i64 v] 23)) (g := w.heap.size + 1) (by simp) 83 #[.bool false, .int .u64 0])
  clear h
  go_enter Try.func74, Try.ntmps74
  go_wp2_with fail
  go_at_call 78
  refine (splace_spec A _ c p q t v l _ HL.out hc hn).mono ?_
  generalize (w.alloc (.cells #[.int .i64 p, .int .i64 q, .int .i64 t, .int .i64 v] 23)).alloc (.cells #[.bool false, .int .u64 0] 83) = wB at HL HB HX HK ⊢
  have x0 := cell0 HX.out; have x1 := cell1 HX.out; have x2 := cell2 HX.out; have x3 := cell3 HX.out; have c0 : _ = some (Value.bool false) := HK.out.cell 0; have c1 : _ = some (Value.int .u64 0) := HK.out.cell 1; have f0 := HK.out.frozen 0; have f1 := HK.out.frozen 1
  unfold PlcW
  rintro e w1 ⟨rfl, hb⟩
  clear x0 x1 x2 x3 c0 c1 f0 f1; replace HB := Lib.hid (pure_below HB.out hb); replace HX := Lib.hid (HX.out.pure hb); replace HK := Lib.hid (HK.out.pure hb); replace HL := Lib.hid (HL.out.pure hb); clear hb; have x0 := cell0 HX.out; have x1 := cell1 HX.out; have x2 := cell2 HX.out; have x3 := cell3 HX.out; have c0 : _ = some (Value.bool false) := HK.out.cell 0; have c1 : _ = some (Value.int .u64 0) := HK.out.cell 1; have f0 := HK.out.frozen 0; have f1 := HK.out.frozen 1
  by_cases he : plcE l p q t v = 0
  · have hs := rd_cases (plc_isS he)
    have HE := Lib.hid he
    obtain ⟨a, ha⟩ : ∃ a, plcA l p q t v = a := ⟨_, rfl⟩
    obtain ⟨x, hx⟩ : ∃ x, plcW l p q t v = x := ⟨_, rfl⟩
    have HA := Lib.hid ha
    have HXW := Lib.hid hx
    rw [he, ha, hx]
    clear he ha hx
    have HPN := Lib.hid (show scN l p q t v = rdN l t a x by unfold scN; rw [HE.out, HA.out, HXW.out]; rfl)
    have HPU := Lib.hid (show scU l p q t v = rdU l t a x by unfold scU; rw [HE.out, HA.out, HXW.out]; rfl)
    have hcs : t = 0 ∨ t = 26 ∨ (t = 1 ∨ t = 6) ∨ (t = 2 ∨ t = 7) := by omega
    clear hs
    rcases hcs with h0 | h0 | h0 | h0
    · have H0 := Lib.hid h0
      clear h0
      have HF := Lib.hid (show rdF t = some (.func (.func 124) #[] #[]) from by (unfold rdF; rw [if_pos H0.out]))
      go_wp2_with fail
      go_region_held3 (fun w' => w'.cell? ⟨w.heap.size, 2, none⟩ = some (.int .i64 t) ) (first | assumption | exact x2 | exact cell_far (Nat.ne_of_lt (Nat.lt_succ_self _)) (cell_far (Nat.ne_of_lt (Nat.lt_succ_self _)) x2))
        (first
          | (go_at_call 111; refine (readers_spec _).mono ?_; rintro e w5 ⟨g, rfl, hg, hb5⟩; have HB5 := Lib.hid hb5; have hlk := rd_look2 HF.out w5 g hg; replace HK := Lib.hid (HK.out.drew.pure hb5); have HL5 := Lib.hid ((isb_drew HL.out).pure hb5); have x2 := cell_pure hb5 (p := ⟨w.heap.size, 2, none⟩) (u := .int .i64 t) x2; have c0 := cell_pure hb5 (p := ⟨w.heap.size + 1, 0, none⟩) (u := .bool false) c0; have c1 := cell_pure hb5 (p := ⟨w.heap.size + 1, 1, none⟩) (u := .int .u64 0) c1; have f0 := HK.out.frozen 0; have f1 := HK.out.frozen 1; clear hb5 hg)
          | (go_at_call 124; refine (rd1_spec A _ c a x _).mono ?_; unfold valV; rintro e w6 ⟨rfl, hb6⟩; have HB6 := Lib.hid hb6; replace HK := Lib.hid (HK.out.pure hb6); have x2 := cell_pure hb6 (p := ⟨w.heap.size, 2, none⟩) (u := .int .i64 t) x2; have c0 := cell_pure hb6 (p := ⟨w.heap.size + 1, 0, none⟩) (u := .bool false) c0; have c1 := cell_pure hb6 (p := ⟨w.heap.size + 1, 1, none⟩) (u := .int .u64 0) c1; have f0 := HK.out.frozen 0; have f1 := HK.out.frozen 1; clear hb6))
      go_wp2
      refine bodyPost_ret (v := .tuple #[.agg #[.bool false, .int .u64 0], .int .i64 0]) (by simp [results, Try.results74, go_sem, c0, c1]) rfl ⟨?_, ?_⟩
      · rw [HPN.out, HPU.out, HE.out]
        unfold rdN rdU
        (rw [if_pos H0.out, decide_eq_false (by have := H0.out; omega)]; rfl)
      · exact ((pure_trans (pure_below HB.out.drew HB5.out) HB6.out).setCell (Nat.le_succ _) _).setCell (Nat.le_succ _) _
    · have H0 := Lib.hid h0
      clear h0
      have HF := Lib.hid (show rdF t = some (.func (.func 125) #[] #[]) from by (have e := H0.out; unfold rdF; rw [if_neg (by omega), if_pos e]))
      go_wp2_with fail
      go_region_held3 (fun w' => w'.cell? ⟨w.heap.size, 2, none⟩ = some (.int .i64 t) ) (first | assumption | exact x2 | exact cell_far (Nat.ne_of_lt (Nat.lt_succ_self _)) (cell_far (Nat.ne_of_lt (Nat.lt_succ_self _)) x2))
        (first
          | (go_at_call 111; refine (readers_spec _).mono ?_; rintro e w5 ⟨g, rfl, hg, hb5⟩; have HB5 := Lib.hid hb5; have hlk := rd_look2 HF.out w5 g hg; replace HK := Lib.hid (HK.out.drew.pure hb5); have HL5 := Lib.hid ((isb_drew HL.out).pure hb5); have x2 := cell_pure hb5 (p := ⟨w.heap.size, 2, none⟩) (u := .int .i64 t) x2; have c0 := cell_pure hb5 (p := ⟨w.heap.size + 1, 0, none⟩) (u := .bool false) c0; have c1 := cell_pure hb5 (p := ⟨w.heap.size + 1, 1, none⟩) (u := .int .u64 0) c1; have f0 := HK.out.frozen 0; have f1 := HK.out.frozen 1; clear hb5 hg)
          | (go_at_call 125; refine (rd2_spec A _ c a x l _ HL5.out hc hn).mono ?_; unfold valV; rintro e w6 ⟨rfl, hb6⟩; have HB6 := Lib.hid hb6; replace HK := Lib.hid (HK.out.pure hb6); have x2 := cell_pure hb6 (p := ⟨w.heap.size, 2, none⟩) (u := .int .i64 t) x2; have c0 := cell_pure hb6 (p := ⟨w.heap.size + 1, 0, none⟩) (u := .bool false) c0; have c1 := cell_pure hb6 (p := ⟨w.heap.size + 1, 1, none⟩) (u := .int .u64 0) c1; have f0 := HK.out.frozen 0; have f1 := HK.out.frozen 1; clear hb6))
      go_wp2
      refine bodyPost_ret (v := .tuple #[.agg #[.bool false, .int .u64 (min (loadU l a x) 1 : Nat)], .int .i64 0]) (by simp [results, Try.results74, go_sem, c0, c1]) rfl ⟨?_, ?_⟩
      · rw [HPN.out, HPU.out, HE.out]
        unfold rdN rdU
        (have e := H0.out; rw [if_neg (by omega), if_pos e, decide_eq_false (by omega)]; rfl)
      · exact ((pure_trans (pure_below HB.out.drew HB5.out) HB6.out).setCell (Nat.le_succ _) _).setCell (Nat.le_succ _) _
    · have H0 := Lib.hid h0
      clear h0
      have HF := Lib.hid (show rdF t = some (.func (.func 127) #[] #[]) from by (have e := H0.out; unfold rdF; rw [if_neg (by omega), if_neg (by omega), if_pos e]))
      go_wp2_with fail
      go_region_held3 (fun w' => w'.cell? ⟨w.heap.size, 2, none⟩ = some (.int .i64 t) ) (first | assumption | exact x2 | exact cell_far (Nat.ne_of_lt (Nat.lt_succ_self _)) (cell_far (Nat.ne_of_lt (Nat.lt_succ_self _)) x2))
        (first
          | (go_at_call 111; refine (readers_spec _).mono ?_; rintro e w5 ⟨g, rfl, hg, hb5⟩; have HB5 := Lib.hid hb5; have hlk := rd_look2 HF.out w5 g hg; replace HK := Lib.hid (HK.out.drew.pure hb5); have HL5 := Lib.hid ((isb_drew HL.out).pure hb5); have x2 := cell_pure hb5 (p := ⟨w.heap.size, 2, none⟩) (u := .int .i64 t) x2; have c0 := cell_pure hb5 (p := ⟨w.heap.size + 1, 0, none⟩) (u := .bool false) c0; have c1 := cell_pure hb5 (p := ⟨w.heap.size + 1, 1, none⟩) (u := .int .u64 0) c1; have f0 := HK.out.frozen 0; have f1 := HK.out.frozen 1; clear hb5 hg)
          | (go_at_call 127; refine (with_spec A _ c a x l _ HL5.out hc hn).mono ?_; unfold valV; rintro e w6 ⟨rfl, hb6⟩; have HB6 := Lib.hid hb6; replace HK := Lib.hid (HK.out.pure hb6); have x2 := cell_pure hb6 (p := ⟨w.heap.size, 2, none⟩) (u := .int .i64 t) x2; have c0 := cell_pure hb6 (p := ⟨w.heap.size + 1, 0, none⟩) (u := .bool false) c0; have c1 := cell_pure hb6 (p := ⟨w.heap.size + 1, 1, none⟩) (u := .int .u64 0) c1; have f0 := HK.out.frozen 0; have f1 := HK.out.frozen 1; clear hb6))
      go_wp2
      refine bodyPost_ret (v := .tuple #[.agg #[.bool (decide (loadI l a x < 0)), .int .u64 ((loadI l a x).natAbs : Nat)], .int .i64 0]) (by simp [results, Try.results74, go_sem, c0, c1]) rfl ⟨?_, ?_⟩
      · rw [HPN.out, HPU.out, HE.out]
        unfold rdN rdU
        (have e := H0.out; rw [if_neg (by omega), if_neg (by omega), if_pos e, show decide ((t = 1 ∨ t = 6) ∧ loadI l a x < 0) = decide (loadI l a x < 0) from decide_eq_decide.mpr ⟨fun h => h.2, fun h => ⟨e, h⟩⟩]; rfl)
      · exact ((pure_trans (pure_below HB.out.drew HB5.out) HB6.out).setCell (Nat.le_succ _) _).setCell (Nat.le_succ _) _
    · have H0 := Lib.hid h0
      clear h0
      have HF := Lib.hid (show rdF t = some (.func (.func 126) #[] #[]) from by (have e := H0.out; unfold rdF; rw [if_neg (by omega), if_neg (by omega), if_neg (by omega), if_pos e]))
      go_wp2_with fail
      go_region_held3 (fun w' => w'.cell? ⟨w.heap.size, 2, none⟩ = some (.int .i64 t) ) (first | assumption | exact x2 | exact cell_far (Nat.ne_of_lt (Nat.lt_succ_self _)) (cell_far (Nat.ne_of_lt (Nat.lt_succ_self _)) x2))
        (first
          | (go_at_call 111; refine (readers_spec _).mono ?_; rintro e w5 ⟨g, rfl, hg, hb5⟩; have HB5 := Lib.hid hb5; have hlk := rd_look2 HF.out w5 g hg; replace HK := Lib.hid (HK.out.drew.pure hb5); have HL5 := Lib.hid ((isb_drew HL.out).pure hb5); have x2 := cell_pure hb5 (p := ⟨w.heap.size, 2, none⟩) (u := .int .i64 t) x2; have c0 := cell_pure hb5 (p := ⟨w.heap.size + 1, 0, none⟩) (u := .bool false) c0; have c1 := cell_pure hb5 (p := ⟨w.heap.size + 1, 1, none⟩) (u := .int .u64 0) c1; have f0 := HK.out.frozen 0; have f1 := HK.out.frozen 1; clear hb5 hg)
          | (go_at_call 126; refine (without_spec A _ c a x l _ HL5.out hc hn).mono ?_; unfold valV; rintro e w6 ⟨rfl, hb6⟩; have HB6 := Lib.hid hb6; replace HK := Lib.hid (HK.out.pure hb6); have x2 := cell_pure hb6 (p := ⟨w.heap.size, 2, none⟩) (u := .int .i64 t) x2; have c0 := cell_pure hb6 (p := ⟨w.heap.size + 1, 0, none⟩) (u := .bool false) c0; have c1 := cell_pure hb6 (p := ⟨w.heap.size + 1, 1, none⟩) (u := .int .u64 0) c1; have f0 := HK.out.frozen 0; have f1 := HK.out.frozen 1; clear hb6))
      go_wp2
      refine bodyPost_ret (v := .tuple #[.agg #[.bool false, .int .u64 (loadU l a x : Nat)], .int .i64 0]) (by simp [results, Try.results74, go_sem, c0, c1]) rfl ⟨?_, ?_⟩
      · rw [HPN.out, HPU.out, HE.out]
        unfold rdN rdU
        (have e := H0.out; rw [if_neg (by omega), if_neg (by omega), if_neg (by omega), decide_eq_false (by omega)]; rfl)
      · exact ((pure_trans (pure_below HB.out.drew HB5.out) HB6.out).setCell (Nat.le_succ _) _).setCell (Nat.le_succ _) _
  · have hne : (plcE l p q t v != 0) = true := by simpa using he
    have HPN := Lib.hid (show scN l p q t v = false by unfold scN; rw [decide_eq_false he]; rfl)
    have HPU := Lib.hid (show scU l p q t v = 0 from if_neg he)
    have hv := HPN.out
    clear he
    go_wp2
    refine bodyPost_ret (v := .tuple #[.agg #[.bool false, .int .u64 0], .int .i64 (plcE l p q t v)]) (by simp [results, Try.results74, go_sem, c0, c1]) rfl ⟨?_, ?_⟩
    · rw [HPN.out, HPU.out]; rfl
    · exact (HB.out.setCell (Nat.le_succ _) _).setCell (Nat.le_succ _) _
end Go.Proofs.Ytaigofpipoimkaa
