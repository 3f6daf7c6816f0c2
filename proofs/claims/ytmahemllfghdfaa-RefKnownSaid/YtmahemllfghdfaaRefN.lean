/-
  Package ref: the property RefKnown.
-/
import Derived.Test.YtmahemllfghdfaaRefF
import Derived.Test.YtmahemllfghdfaaRefG
import Derived.Deep.DeepCutAuto
namespace Go.Proofs.Ytmahemllfghdfaa
open Go.RowKit Go.Acc
def kb21 : List UInt8 := [0, 1, 2, 3, 4, 5, 6, 7, 8, 255, 255, 255, 255, 255, 255, 255, 255, 0]
def places21 : List Int := [-9223372036854775808, -1, 0, 1, 7, 8, 9, 10, 14, 16, 17, 18, 9223372036854775800, 9223372036854775807]
def ic (x : Int) : List Value := [.int .i64 x]
theorem is_blk_m {α : Type} {f : α → List Value} {w : World} {g n : Nat} {t : TypeId} {cs : Array Value} (l : List α) (hB : Blk w g t cs) (hn : l.length = n) (h : cs.toList = l.flatMap f) : Is f w (some ⟨g, 0, none⟩) n l := by
  refine ⟨hn, fun j u hu => ⟨_, _, rfl, ?_⟩⟩
  rw [Nat.zero_add, hB.cell j]
  rw [← h] at hu
  simpa using hu
theorem cell_alloc_ {w : World} {p : Addr} {u : Value} (o : Obj) (h : w.cell? p = some u) : (w.alloc o).cell? p = some u := cell_pure ((Below.refl _ _).alloc (Nat.le_refl _) o) h
theorem cell_set {w : World} {p q : Addr} {u v : Value} (h : w.cell? q = some v) (hne : q.block ≠ p.block) : (w.setCell p u).cell? q = some v :=
  (World.cell?_of_block (w := w) (Below.heap_setCell w p u q.block hne)).trans h
theorem ic_at {w : World} {g n k : Nat} {l : List Int} (h : Is ic w (some ⟨g, 0, none⟩) n l) (hk : k < n) : ∃ x, w.cell? ⟨g, k, none⟩ = some (.int .i64 x) := by
  obtain ⟨b, off, e, hk', hc⟩ := h.at_ (fun _ => rfl) (sz := 1) (by omega) hk
  injection e with e
  injection e with e1 e2
  subst e1 e2
  have := hc 0 (by omega)
  rw [Nat.mul_one, Nat.add_zero, Nat.zero_add] at this
  exact ⟨_, this⟩
structure Tb21 (w : World) (b0 b1 : Nat) : Prop where
  x : IsB w (some ⟨b0, 0, none⟩) 18 kb21
  p : Is ic w (some ⟨b1, 0, none⟩) 14 places21
theorem Tb21.pure {w w' : World} {b0 b1 : Nat} (h : Tb21 w b0 b1) (hb : Below w.heap.size w w') : Tb21 w' b0 b1 := ⟨h.x.pure hb, h.p.pure hb⟩
theorem Tb21.drew {w : World} {b0 b1 : Nat} (h : Tb21 w b0 b1) : Tb21 w.drew b0 b1 := ⟨h.x, h.p⟩
/-- Two references in blocks of their own. -/
def TwoR (w : World) (u6 u7 : Value) (p x t : Int) : Prop :=
  ∃ b c : Nat, u6 = .pointer (some ⟨b, 0, none⟩) ∧ u7 = .pointer (some ⟨c, 0, none⟩) ∧ Blk w b 23 #[.int .i64 p, .int .i64 x, .int .i64 t, .int .i64 1] ∧ Blk w c 23 #[.int .i64 p, .int .i64 1, .int .i64 t, .int .i64 x]
theorem blk_set4 {w : World} {g c : Nat} {t : TypeId} {cs : Array Value} (h : Blk w c t cs) (hne : c ≠ g) (u0 u1 u2 u3 : Value) : Blk ((((w.setCell ⟨g, 0, none⟩ u0).setCell ⟨g, 1, none⟩ u1).setCell ⟨g, 2, none⟩ u2).setCell ⟨g, 3, none⟩ u3) c t cs := by
  have hf : ∀ (w : World) (j : Nat) (u : Value), Fr (fun k => k = g) w (w.setCell ⟨g, j, none⟩ u) := fun w j u => Fr.setCell (S := fun k => k = g) (Fr.refl _ _) (fun _ => rfl) _
  exact (((h.fr (hf _ 0 u0) hne).fr (hf _ 1 u1) hne).fr (hf _ 2 u2) hne).fr (hf _ 3 u3) hne
theorem bset4 {B : Nat} {a w : World} (g : Nat) (h : Below B a w) (hg : B ≤ g) (v0 v1 v2 v3 : Value) : Below B a ((((w.setCell ⟨g, 0, none⟩ v0).setCell ⟨g, 1, none⟩ v1).setCell ⟨g, 2, none⟩ v2).setCell ⟨g, 3, none⟩ v3) :=
  (((h.setCell hg _).setCell hg _).setCell hg _).setCell hg _
theorem cell_below {w w' : World} {g j n : Nat} {u : Value} (hb : Below w.heap.size w w') (h : w.cell? ⟨g, j, none⟩ = some u) (_ : n < w.heap.size) : w'.cell? ⟨g, j, none⟩ = some u := cell_pure hb h
theorem rdrw {w : World} {p : Addr} {u : Value} (h : w.cell? p = some u) : w.drew.cell? p = some u := h
theorem is_nil_lit (w : World) : IsB w none 0 [] := by
  refine ⟨rfl, fun j u h => ?_⟩
  simp at h
set_option maxRecDepth 100000 in
set_option maxHeartbeats 4000000 in
theorem refknown_spec (w : World) : Calls Try.prog 4 #[] w fun e w' => e = .returned (.bool true) ∧ Below w.heap.size w w' := by
  go_enter Try.func4, Try.ntmps4
  go_wp2_with fail
  go_loopw [3, 4, 5, 6, 7] (fun t _ _ _ _ wr => ∃ k : Int, -1 ≤ k ∧ k ≤ 38 ∧ t = .int .i64 k ∧ Below w.heap.size w wr ∧ Tb21 wr w.heap.size (w.heap.size + 1)) (fun t _ _ _ _ _ => (38 - intOf t).toNat)
  case atStart =>
    refine ⟨-1, by omega, by omega, rfl, ((Below.refl _ _).alloc (Nat.le_refl _) _).alloc (by simp) _, ?_, ?_⟩
    · exact (isb_lit w _ kb21 18 rfl rfl).alloc _
    · exact is_blk_m places21 (Blk.new_ (by simp) _ _) rfl rfl
  case round =>
    obtain ⟨t, ht0, ht, rfl, hB, hT⟩ := hrel
    have HB := Lib.hid hB
    have HT := Lib.hid hT
    clear hB hT
    by_cases hlt : t < 38
    · obtain ⟨wo, rfl⟩ : ∃ wo : World, wo = wr := ⟨_, rfl⟩
      go_wp2_with fail
      go_loopw [4, 5, 6, 7] (fun t _ _ _ wr => ∃ k : Nat, k ≤ 14 ∧ t = .int .i64 k ∧ Below wo.heap.size wo wr ∧ Tb21 wr w.heap.size (w.heap.size + 1)) (fun t _ _ _ _ => 14 - (intOf t).toNat)
      case atStart => exact ⟨0, by omega, rfl, Below.refl _ _, HT.out⟩
      case round =>
        obtain ⟨i, hi, rfl, hB, hT⟩ := hrel
        have HB2 := Lib.hid hB
        replace HT := Lib.hid hT
        clear hB hT
        by_cases hlt2 : i < 14
        · obtain ⟨wp, rfl⟩ : ∃ wp : World, wp = wr := ⟨_, rfl⟩
          obtain ⟨p, hp⟩ := ic_at HT.out.p hlt2
          have HP := Lib.hid hp
          clear hp
          have hi14 : (i : Int) < 14 := by omega
          have hi0 : (0 : Int) ≤ i := by omega
          go_wp2_with fail
          go_loopw [5, 6, 7] (fun t _ _ wr => ∃ k : Int, 0 ≤ k ∧ k ≤ 10 ∧ t = .int .i64 k ∧ Below wp.heap.size wp wr ∧ Tb21 wr w.heap.size (w.heap.size + 1)) (fun t _ _ _ => (10 - intOf t).toNat)
          case atStart => exact ⟨0, by omega, by omega, rfl, Below.refl _ _, HT.out⟩
          case round =>
            obtain ⟨x, hx0, hx, rfl, hB, hT⟩ := hrel
            have HB3 := Lib.hid hB
            replace HT := Lib.hid hT
            clear hB hT
            by_cases hlt3 : x < 10
            · obtain ⟨wq, rfl⟩ : ∃ wq : World, wq = wr := ⟨_, rfl⟩
              have hp := cell_pure HB3.out HP.out
              go_wp2_with fail
              go_upto_region 12 with fail
              go_cut [6, 7] (fun u6 u7 wx => TwoR wx u6 u7 p x t ∧ Below wq.heap.size wq wx)
              case first =>
                have hsz : w.heap.size + 1 < wq.heap.size := lt_of_cell hp
                have S0 : ∀ W : World, Below wq.heap.size wq W → W.cell? ⟨w.heap.size + 1, i, none⟩ = some (.int .i64 p) := fun W hb => cell_below hb hp hsz
                refine wp_region_held_drew (S := fun w' => w'.cell? ⟨w.heap.size + 1, i, none⟩ = some (.int .i64 p)) (by kernel_rfl) ?_ (fun hHeld => ?_)
                · exact hp
                refine wpAnyH_take (i := 0) (oi := ?_) (v := ?_) ?_ ?_ ?_ ?_ ?_ ?_ ?_ ?_
                rotate_left 2
                · (simp only [List.getElem?_toArray, List.getElem?_cons_zero]; rfl)
                · kernel_rfl
                · kernel_rfl
                · kernel_rfl
                · exact fun _ _ _ h => h
                · refine Or.inl ⟨by rfl, ?_⟩
                  intro w' hSw
                  (try dsimp only at hSw)
                  go_simp
                  (try with_reducible rfl)
                · assumption
                try simp only [Act.put, List.setIfInBounds_toArray, List.set_cons_zero, List.set_cons_succ]
                refine wpAnyH_take (i := 1) (oi := ?_) (v := ?_) ?_ ?_ ?_ ?_ ?_ ?_ ?_ ?_
                rotate_left 2
                · (simp only [List.getElem?_toArray, List.getElem?_cons_succ, List.getElem?_cons_zero]; rfl)
                · kernel_rfl
                · kernel_rfl
                · kernel_rfl
                · exact fun _ _ _ h => h
                · refine Or.inl ⟨by rfl, ?_⟩
                  intro w' hSw
                  (try dsimp only at hSw)
                  go_simp
                  (try with_reducible rfl)
                · assumption
                try simp only [Act.put, List.setIfInBounds_toArray, List.set_cons_zero, List.set_cons_succ]
                refine wpAnyH_take (i := 2) (oi := ?_) (v := ?_) ?_ ?_ ?_ ?_ ?_ ?_ ?_ ?_
                rotate_left 2
                · (simp only [List.getElem?_toArray, List.getElem?_cons_succ, List.getElem?_cons_zero]; rfl)
                · kernel_rfl
                · kernel_rfl
                · kernel_rfl
                · exact fun _ _ _ h => h
                · refine Or.inl ⟨by rfl, ?_⟩
                  intro w' hSw
                  (try dsimp only at hSw)
                  go_simp
                  (try with_reducible rfl)
                · assumption
                try simp only [Act.put, List.setIfInBounds_toArray, List.set_cons_zero, List.set_cons_succ]
                refine wpAnyH_take (i := 3) (oi := ?_) (v := ?_) ?_ ?_ ?_ ?_ ?_ ?_ ?_ ?_
                rotate_left 2
                · (simp only [List.getElem?_toArray, List.getElem?_cons_succ, List.getElem?_cons_zero]; rfl)
                · kernel_rfl
                · kernel_rfl
                · kernel_rfl
                · exact fun _ _ _ h => h
                · refine Or.inl ⟨by rfl, ?_⟩
                  intro w' hSw
                  (try dsimp only at hSw)
                  go_simp
                  (try with_reducible rfl)
                · assumption
                try simp only [Act.put, List.setIfInBounds_toArray, List.set_cons_zero, List.set_cons_succ]
                refine wpAnyH_take (i := 4) (oi := ?_) (v := ?_) ?_ ?_ ?_ ?_ ?_ ?_ ?_ ?_
                rotate_left 2
                · (simp only [List.getElem?_toArray, List.getElem?_cons_succ, List.getElem?_cons_zero]; rfl)
                · kernel_rfl
                · kernel_rfl
                · kernel_rfl
                · exact fun _ _ _ h => h
                · refine Or.inl ⟨by rfl, ?_⟩
                  intro w' hSw
                  (try dsimp only at hSw)
                  go_simp
                  (try with_reducible rfl)
                · assumption
                try simp only [Act.put, List.setIfInBounds_toArray, List.set_cons_zero, List.set_cons_succ]
                refine wpAnyH_take (i := 5) (oi := ?_) (v := ?_) ?_ ?_ ?_ ?_ ?_ ?_ ?_ ?_
                rotate_left 2
                · (simp only [List.getElem?_toArray, List.getElem?_cons_succ, List.getElem?_cons_zero]; rfl)
                · kernel_rfl
                · kernel_rfl
                · kernel_rfl
                · exact fun _ _ _ h => h
                · refine Or.inl ⟨by rfl, ?_⟩
                  intro w' hSw
                  (try dsimp only at hSw)
                  go_simp
                  (try with_reducible rfl)
                · assumption
                try simp only [Act.put, List.setIfInBounds_toArray, List.set_cons_zero, List.set_cons_succ]
                refine wpAnyH_take (i := 7) (oi := ?_) (v := ?_) ?_ ?_ ?_ ?_ ?_ ?_ ?_ ?_
                rotate_left 2
                · (simp only [List.getElem?_toArray, List.getElem?_cons_succ, List.getElem?_cons_zero]; rfl)
                · kernel_rfl
                · kernel_rfl
                · kernel_rfl
                · exact fun _ _ _ h => h
                · refine Or.inl ⟨by rfl, ?_⟩
                  intro w' hSw
                  (try dsimp only at hSw)
                  go_simp
                  (try with_reducible rfl)
                · assumption
                try simp only [Act.put, List.setIfInBounds_toArray, List.set_cons_zero, List.set_cons_succ]
                refine wpAnyH_take (i := 8) (oi := ?_) (v := ?_) ?_ ?_ ?_ ?_ ?_ ?_ ?_ ?_
                rotate_left 2
                · (simp only [List.getElem?_toArray, List.getElem?_cons_succ, List.getElem?_cons_zero]; rfl)
                · kernel_rfl
                · kernel_rfl
                · kernel_rfl
                · exact fun _ _ _ h => h
                · refine Or.inl ⟨by rfl, ?_⟩
                  intro w' hSw
                  (try dsimp only at hSw)
                  go_simp
                  (try with_reducible rfl)
                · assumption
                try simp only [Act.put, List.setIfInBounds_toArray, List.set_cons_zero, List.set_cons_succ]
                refine wpAnyH_take (i := 9) (oi := ?_) (v := ?_) ?_ ?_ ?_ ?_ ?_ ?_ ?_ ?_
                rotate_left 2
                · (simp only [List.getElem?_toArray, List.getElem?_cons_succ, List.getElem?_cons_zero]; rfl)
                · kernel_rfl
                · kernel_rfl
                · kernel_rfl
                · exact fun _ _ _ h => h
                · refine Or.inl ⟨by rfl, ?_⟩
                  intro w' hSw
                  (try dsimp only at hSw)
                  go_simp
                  (try with_reducible rfl)
                · assumption
                try simp only [Act.put, List.setIfInBounds_toArray, List.set_cons_zero, List.set_cons_succ]
                refine wpAnyH_take (i := 10) (oi := ?_) (v := ?_) ?_ ?_ ?_ ?_ ?_ ?_ ?_ ?_
                rotate_left 2
                · (simp only [List.getElem?_toArray, List.getElem?_cons_succ, List.getElem?_cons_zero]; rfl)
                · kernel_rfl
                · kernel_rfl
                · kernel_rfl
                · exact fun _ _ _ h => h
                · refine Or.inl ⟨by rfl, ?_⟩
                  intro w' hSw
                  (try dsimp only at hSw)
                  go_simp
                  (try with_reducible rfl)
                · assumption
                try simp only [Act.put, List.setIfInBounds_toArray, List.set_cons_zero, List.set_cons_succ]
                refine wpAnyH_take (i := 11) (oi := ?_) (v := ?_) ?_ ?_ ?_ ?_ ?_ ?_ ?_ ?_
                rotate_left 2
                · (simp only [List.getElem?_toArray, List.getElem?_cons_succ, List.getElem?_cons_zero]; rfl)
                · kernel_rfl
                · kernel_rfl
                · kernel_rfl
                · exact fun _ _ _ h => h
                · refine Or.inl ⟨by rfl, ?_⟩
                  intro w' hSw
                  (try dsimp only at hSw)
                  go_simp
                  (try with_reducible rfl)
                · assumption
                try simp only [Act.put, List.setIfInBounds_toArray, List.set_cons_zero, List.set_cons_succ]
                refine wpAnyH_take (i := 12) (oi := ?_) (v := ?_) ?_ ?_ ?_ ?_ ?_ ?_ ?_ ?_
                rotate_left 2
                · (simp only [List.getElem?_toArray, List.getElem?_cons_succ, List.getElem?_cons_zero]; rfl)
                · kernel_rfl
                · kernel_rfl
                · kernel_rfl
                · exact fun _ _ _ h => h
                · refine Or.inl ⟨by rfl, ?_⟩
                  intro w' hSw
                  (try dsimp only at hSw)
                  go_simp
                  (try with_reducible rfl)
                · assumption
                try simp only [Act.put, List.setIfInBounds_toArray, List.set_cons_zero, List.set_cons_succ]
                have HB := Lib.hid (show Below wq.heap.size wq wq.drew from (Below.refl _ _).drew)
                generalize wq.drew = W0 at HB hHeld ⊢
                refine wpAnyH_ready (rs := [6, 14, 15]) (by kernel_rfl) (by simp) ?_
                refine AllReadyH.cons (by simp only [List.getElem?_toArray, List.getElem?_cons_succ, List.getElem?_cons_zero]; rfl) (fun K hK => ?_) ?_
                · go_simp
                  go_at_call 10
                  with_reducible refine (of21_spec p x t 1 _).mono ?_
                  rintro e V1 ⟨rfl, hbn⟩
                  go_wp2_with fail
                  have HN := Lib.hid (pure_below HB.out hbn)
                  refine hK.out _ _ (S0 _ HN.out) (fun hHeld => ?_)
                  replace HB := HN
                  clear hK K hbn HN
                  try simp only [Act.put, List.setIfInBounds_toArray, List.set_cons_zero, List.set_cons_succ]
                  refine wpAnyH_ready (rs := [13, 14, 15]) (by kernel_rfl) (by simp) ?_
                  refine AllReadyH.cons (by simp only [List.getElem?_toArray, List.getElem?_cons_succ, List.getElem?_cons_zero]; rfl) (fun K hK => ?_) ?_
                  · go_simp
                    go_at_call 10
                    with_reducible refine (of21_spec p 1 t x _).mono ?_
                    rintro e V2 ⟨rfl, hbn⟩
                    go_wp2_with fail
                    have HN := Lib.hid (pure_below HB.out hbn)
                    refine hK.out _ _ (S0 _ HN.out) (fun hHeld => ?_)
                    replace HB := HN
                    clear hK K hbn HN
                    try simp only [Act.put, List.setIfInBounds_toArray, List.set_cons_zero, List.set_cons_succ]
                    refine wpAnyH_ready (rs := [14, 15]) (by kernel_rfl) (by simp) ?_
                    refine AllReadyH.cons (by simp only [List.getElem?_toArray, List.getElem?_cons_succ, List.getElem?_cons_zero]; rfl) (fun K hK => ?_) ?_
                    · go_simp
                      have HN := Lib.hid (HB.out.alloc HB.out.size (.cells #[.int .i64 0, .int .i64 0, .int .i64 0, .int .i64 0] 23))
                      refine hK.out _ _ (S0 _ HN.out) (fun hHeld => ?_)
                      have HA := Lib.hid (Blk.new V2 23 #[.int .i64 0, .int .i64 0, .int .i64 0, .int .i64 0])
                      have GA := Lib.hid HB.out.size
                      replace HB := HN
                      clear hK K HN
                      try simp only [Act.put, List.setIfInBounds_toArray, List.set_cons_zero, List.set_cons_succ]
                      generalize V2.alloc (.cells #[.int .i64 0, .int .i64 0, .int .i64 0, .int .i64 0] 23) = V3 at *
                      generalize V2.heap.size = bA at *
                      refine wpAnyH_ready (rs := [15]) (by kernel_rfl) (by simp) ?_
                      refine AllReadyH.cons (by simp only [List.getElem?_toArray, List.getElem?_cons_succ, List.getElem?_cons_zero]; rfl) (fun K hK => ?_) ?_
                      · go_simp
                        have HN := Lib.hid (HB.out.alloc HB.out.size (.cells #[.int .i64 0, .int .i64 0, .int .i64 0, .int .i64 0] 23))
                        refine hK.out _ _ (S0 _ HN.out) (fun hHeld => ?_)
                        have HC := Lib.hid (Blk.new V3 23 #[.int .i64 0, .int .i64 0, .int .i64 0, .int .i64 0])
                        have GC := Lib.hid HB.out.size
                        have HNE := Lib.hid (show bA ≠ V3.heap.size from Nat.ne_of_lt HA.out.lt)
                        replace HA := Lib.hid (HA.out.alloc (.cells #[.int .i64 0, .int .i64 0, .int .i64 0, .int .i64 0] 23))
                        replace HB := HN
                        clear hK K HN
                        try simp only [Act.put, List.setIfInBounds_toArray, List.set_cons_zero, List.set_cons_succ]
                        generalize V3.alloc (.cells #[.int .i64 0, .int .i64 0, .int .i64 0, .int .i64 0] 23) = V4 at *
                        generalize V3.heap.size = bC at *
                        refine wpAnyH_ready (rs := [16]) (by kernel_rfl) (by simp) ?_
                        refine AllReadyH.cons (by simp only [List.getElem?_toArray, List.getElem?_cons_succ, List.getElem?_cons_zero]; rfl) (fun K hK => ?_) ?_
                        · have q0 := cell0 HA.out
                          have p0 := HA.out.frozen 0
                          have q1 := cell1 HA.out
                          have p1 := HA.out.frozen 1
                          have q2 := cell2 HA.out
                          have p2 := HA.out.frozen 2
                          have q3 := cell3 HA.out
                          have p3 := HA.out.frozen 3
                          go_simp
                          have HN := Lib.hid (bset4 _ HB.out GA.out (.int .i64 (p)) (.int .i64 (x)) (.int .i64 (t)) (.int .i64 (1)))
                          refine hK.out _ _ (S0 _ HN.out) (fun hHeld => ?_)
                          replace HA := Lib.hid (show Blk _ bA 23 #[.int .i64 p, .int .i64 x, .int .i64 t, .int .i64 1] from (((HA.out.set_ 0 _).set_ 1 _).set_ 2 _).set_ 3 _)
                          replace HC := Lib.hid (blk_set4 HC.out (Ne.symm HNE.out) (.int .i64 (p)) (.int .i64 (x)) (.int .i64 (t)) (.int .i64 (1)))
                          replace HB := HN
                          clear hK K HN q0 q1 q2 q3 p0 p1 p2 p3
                          try simp only [Act.put, List.setIfInBounds_toArray, List.set_cons_zero, List.set_cons_succ]
                          generalize ((((V4.setCell _ _).setCell _ _).setCell _ _).setCell _ _) = V5 at *
                          refine wpAnyH_ready (rs := [17]) (by kernel_rfl) (by simp) ?_
                          refine AllReadyH.cons (by simp only [List.getElem?_toArray, List.getElem?_cons_succ, List.getElem?_cons_zero]; rfl) (fun K hK => ?_) ?_
                          · have q0 := cell0 HC.out
                            have p0 := HC.out.frozen 0
                            have q1 := cell1 HC.out
                            have p1 := HC.out.frozen 1
                            have q2 := cell2 HC.out
                            have p2 := HC.out.frozen 2
                            have q3 := cell3 HC.out
                            have p3 := HC.out.frozen 3
                            go_simp
                            have HN := Lib.hid (bset4 _ HB.out GC.out (.int .i64 (p)) (.int .i64 (1)) (.int .i64 (t)) (.int .i64 (x)))
                            refine hK.out _ _ (S0 _ HN.out) (fun hHeld => ?_)
                            replace HC := Lib.hid (show Blk _ bC 23 #[.int .i64 p, .int .i64 1, .int .i64 t, .int .i64 x] from (((HC.out.set_ 0 _).set_ 1 _).set_ 2 _).set_ 3 _)
                            replace HA := Lib.hid (blk_set4 HA.out HNE.out (.int .i64 (p)) (.int .i64 (1)) (.int .i64 (t)) (.int .i64 (x)))
                            replace HB := HN
                            clear hK K HN q0 q1 q2 q3 p0 p1 p2 p3
                            try simp only [Act.put, List.setIfInBounds_toArray, List.set_cons_zero, List.set_cons_succ]
                            generalize ((((V5.setCell _ _).setCell _ _).setCell _ _).setCell _ _) = V6 at *
                            refine wpAnyH_done (by kernel_rfl) ?_ _
                            go_wp2_with fail
                            go_meet
                            exact ⟨⟨_, _, rfl, rfl, HA.out, HC.out⟩, HB.out⟩
                          exact AllReadyH.nil
                        exact AllReadyH.nil
                      exact AllReadyH.nil
                    refine AllReadyH.cons (by simp only [List.getElem?_toArray, List.getElem?_cons_succ, List.getElem?_cons_zero]; rfl) (fun K hK => ?_) ?_
                    · go_simp
                      have HN := Lib.hid (HB.out.alloc HB.out.size (.cells #[.int .i64 0, .int .i64 0, .int .i64 0, .int .i64 0] 23))
                      refine hK.out _ _ (S0 _ HN.out) (fun hHeld => ?_)
                      have HC := Lib.hid (Blk.new V2 23 #[.int .i64 0, .int .i64 0, .int .i64 0, .int .i64 0])
                      have GC := Lib.hid HB.out.size
                      replace HB := HN
                      clear hK K HN
                      try simp only [Act.put, List.setIfInBounds_toArray, List.set_cons_zero, List.set_cons_succ]
                      generalize V2.alloc (.cells #[.int .i64 0, .int .i64 0, .int .i64 0, .int .i64 0] 23) = V7 at *
                      generalize V2.heap.size = bC at *
                      refine wpAnyH_ready (rs := [14]) (by kernel_rfl) (by simp) ?_
                      refine AllReadyH.cons (by simp only [List.getElem?_toArray, List.getElem?_cons_succ, List.getElem?_cons_zero]; rfl) (fun K hK => ?_) ?_
                      · go_simp
                        have HN := Lib.hid (HB.out.alloc HB.out.size (.cells #[.int .i64 0, .int .i64 0, .int .i64 0, .int .i64 0] 23))
                        refine hK.out _ _ (S0 _ HN.out) (fun hHeld => ?_)
                        have HA := Lib.hid (Blk.new V7 23 #[.int .i64 0, .int .i64 0, .int .i64 0, .int .i64 0])
                        have GA := Lib.hid HB.out.size
                        have HNE := Lib.hid (show V7.heap.size ≠ bC from Nat.ne_of_gt HC.out.lt)
                        replace HC := Lib.hid (HC.out.alloc (.cells #[.int .i64 0, .int .i64 0, .int .i64 0, .int .i64 0] 23))
                        replace HB := HN
                        clear hK K HN
                        try simp only [Act.put, List.setIfInBounds_toArray, List.set_cons_zero, List.set_cons_succ]
                        generalize V7.alloc (.cells #[.int .i64 0, .int .i64 0, .int .i64 0, .int .i64 0] 23) = V8 at *
                        generalize V7.heap.size = bA at *
                        refine wpAnyH_ready (rs := [16]) (by kernel_rfl) (by simp) ?_
                        refine AllReadyH.cons (by simp only [List.getElem?_toArray, List.getElem?_cons_succ, List.getElem?_cons_zero]; rfl) (fun K hK => ?_) ?_
                        · have q0 := cell0 HA.out
                          have p0 := HA.out.frozen 0
                          have q1 := cell1 HA.out
                          have p1 := HA.out.frozen 1
                          have q2 := cell2 HA.out
                          have p2 := HA.out.frozen 2
                          have q3 := cell3 HA.out
                          have p3 := HA.out.frozen 3
                          go_simp
                          have HN := Lib.hid (bset4 _ HB.out GA.out (.int .i64 (p)) (.int .i64 (x)) (.int .i64 (t)) (.int .i64 (1)))
                          refine hK.out _ _ (S0 _ HN.out) (fun hHeld => ?_)
                          replace HA := Lib.hid (show Blk _ bA 23 #[.int .i64 p, .int .i64 x, .int .i64 t, .int .i64 1] from (((HA.out.set_ 0 _).set_ 1 _).set_ 2 _).set_ 3 _)
                          replace HC := Lib.hid (blk_set4 HC.out (Ne.symm HNE.out) (.int .i64 (p)) (.int .i64 (x)) (.int .i64 (t)) (.int .i64 (1)))
                          replace HB := HN
                          clear hK K HN q0 q1 q2 q3 p0 p1 p2 p3
                          try simp only [Act.put, List.setIfInBounds_toArray, List.set_cons_zero, List.set_cons_succ]
                          generalize ((((V8.setCell _ _).setCell _ _).setCell _ _).setCell _ _) = V9 at *
                          refine wpAnyH_ready (rs := [17]) (by kernel_rfl) (by simp) ?_
                          refine AllReadyH.cons (by simp only [List.getElem?_toArray, List.getElem?_cons_succ, List.getElem?_cons_zero]; rfl) (fun K hK => ?_) ?_
                          · have q0 := cell0 HC.out
                            have p0 := HC.out.frozen 0
                            have q1 := cell1 HC.out
                            have p1 := HC.out.frozen 1
                            have q2 := cell2 HC.out
                            have p2 := HC.out.frozen 2
                            have q3 := cell3 HC.out
                            have p3 := HC.out.frozen 3
                            go_simp
                            have HN := Lib.hid (bset4 _ HB.out GC.out (.int .i64 (p)) (.int .i64 (1)) (.int .i64 (t)) (.int .i64 (x)))
                            refine hK.out _ _ (S0 _ HN.out) (fun hHeld => ?_)
                            replace HC := Lib.hid (show Blk _ bC 23 #[.int .i64 p, .int .i64 1, .int .i64 t, .int .i64 x] from (((HC.out.set_ 0 _).set_ 1 _).set_ 2 _).set_ 3 _)
                            replace HA := Lib.hid (blk_set4 HA.out HNE.out (.int .i64 (p)) (.int .i64 (1)) (.int .i64 (t)) (.int .i64 (x)))
                            replace HB := HN
                            clear hK K HN q0 q1 q2 q3 p0 p1 p2 p3
                            try simp only [Act.put, List.setIfInBounds_toArray, List.set_cons_zero, List.set_cons_succ]
                            generalize ((((V9.setCell _ _).setCell _ _).setCell _ _).setCell _ _) = V10 at *
                            refine wpAnyH_done (by kernel_rfl) ?_ _
                            go_wp2_with fail
                            go_meet
                            exact ⟨⟨_, _, rfl, rfl, HA.out, HC.out⟩, HB.out⟩
                          exact AllReadyH.nil
                        exact AllReadyH.nil
                      exact AllReadyH.nil
                    exact AllReadyH.nil
                  refine AllReadyH.cons (by simp only [List.getElem?_toArray, List.getElem?_cons_succ, List.getElem?_cons_zero]; rfl) (fun K hK => ?_) ?_
                  · go_simp
                    have HN := Lib.hid (HB.out.alloc HB.out.size (.cells #[.int .i64 0, .int .i64 0, .int .i64 0, .int .i64 0] 23))
                    refine hK.out _ _ (S0 _ HN.out) (fun hHeld => ?_)
                    have HA := Lib.hid (Blk.new V1 23 #[.int .i64 0, .int .i64 0, .int .i64 0, .int .i64 0])
                    have GA := Lib.hid HB.out.size
                    replace HB := HN
                    clear hK K HN
                    try simp only [Act.put, List.setIfInBounds_toArray, List.set_cons_zero, List.set_cons_succ]
                    generalize V1.alloc (.cells #[.int .i64 0, .int .i64 0, .int .i64 0, .int .i64 0] 23) = V11 at *
                    generalize V1.heap.size = bA at *
                    refine wpAnyH_ready (rs := [13, 15]) (by kernel_rfl) (by simp) ?_
                    refine AllReadyH.cons (by simp only [List.getElem?_toArray, List.getElem?_cons_succ, List.getElem?_cons_zero]; rfl) (fun K hK => ?_) ?_
                    · go_simp
                      go_at_call 10
                      with_reducible refine (of21_spec p 1 t x _).mono ?_
                      rintro e V12 ⟨rfl, hbn⟩
                      go_wp2_with fail
                      have HN := Lib.hid (pure_below HB.out hbn)
                      refine hK.out _ _ (S0 _ HN.out) (fun hHeld => ?_)
                      replace HA := Lib.hid (HA.out.pure hbn)
                      replace HB := HN
                      clear hK K hbn HN
                      try simp only [Act.put, List.setIfInBounds_toArray, List.set_cons_zero, List.set_cons_succ]
                      refine wpAnyH_ready (rs := [15]) (by kernel_rfl) (by simp) ?_
                      refine AllReadyH.cons (by simp only [List.getElem?_toArray, List.getElem?_cons_succ, List.getElem?_cons_zero]; rfl) (fun K hK => ?_) ?_
                      · go_simp
                        have HN := Lib.hid (HB.out.alloc HB.out.size (.cells #[.int .i64 0, .int .i64 0, .int .i64 0, .int .i64 0] 23))
                        refine hK.out _ _ (S0 _ HN.out) (fun hHeld => ?_)
                        have HC := Lib.hid (Blk.new V12 23 #[.int .i64 0, .int .i64 0, .int .i64 0, .int .i64 0])
                        have GC := Lib.hid HB.out.size
                        have HNE := Lib.hid (show bA ≠ V12.heap.size from Nat.ne_of_lt HA.out.lt)
                        replace HA := Lib.hid (HA.out.alloc (.cells #[.int .i64 0, .int .i64 0, .int .i64 0, .int .i64 0] 23))
                        replace HB := HN
                        clear hK K HN
                        try simp only [Act.put, List.setIfInBounds_toArray, List.set_cons_zero, List.set_cons_succ]
                        generalize V12.alloc (.cells #[.int .i64 0, .int .i64 0, .int .i64 0, .int .i64 0] 23) = V13 at *
                        generalize V12.heap.size = bC at *
                        refine wpAnyH_ready (rs := [16]) (by kernel_rfl) (by simp) ?_
                        refine AllReadyH.cons (by simp only [List.getElem?_toArray, List.getElem?_cons_succ, List.getElem?_cons_zero]; rfl) (fun K hK => ?_) ?_
                        · have q0 := cell0 HA.out
                          have p0 := HA.out.frozen 0
                          have q1 := cell1 HA.out
                          have p1 := HA.out.frozen 1
                          have q2 := cell2 HA.out
                          have p2 := HA.out.frozen 2
                          have q3 := cell3 HA.out
                          have p3 := HA.out.frozen 3
                          go_simp
                          have HN := Lib.hid (bset4 _ HB.out GA.out (.int .i64 (p)) (.int .i64 (x)) (.int .i64 (t)) (.int .i64 (1)))
                          refine hK.out _ _ (S0 _ HN.out) (fun hHeld => ?_)
                          replace HA := Lib.hid (show Blk _ bA 23 #[.int .i64 p, .int .i64 x, .int .i64 t, .int .i64 1] from (((HA.out.set_ 0 _).set_ 1 _).set_ 2 _).set_ 3 _)
                          replace HC := Lib.hid (blk_set4 HC.out (Ne.symm HNE.out) (.int .i64 (p)) (.int .i64 (x)) (.int .i64 (t)) (.int .i64 (1)))
                          replace HB := HN
                          clear hK K HN q0 q1 q2 q3 p0 p1 p2 p3
                          try simp only [Act.put, List.setIfInBounds_toArray, List.set_cons_zero, List.set_cons_succ]
                          generalize ((((V13.setCell _ _).setCell _ _).setCell _ _).setCell _ _) = V14 at *
                          refine wpAnyH_ready (rs := [17]) (by kernel_rfl) (by simp) ?_
                          refine AllReadyH.cons (by simp only [List.getElem?_toArray, List.getElem?_cons_succ, List.getElem?_cons_zero]; rfl) (fun K hK => ?_) ?_
                          · have q0 := cell0 HC.out
                            have p0 := HC.out.frozen 0
                            have q1 := cell1 HC.out
                            have p1 := HC.out.frozen 1
                            have q2 := cell2 HC.out
                            have p2 := HC.out.frozen 2
                            have q3 := cell3 HC.out
                            have p3 := HC.out.frozen 3
                            go_simp
                            have HN := Lib.hid (bset4 _ HB.out GC.out (.int .i64 (p)) (.int .i64 (1)) (.int .i64 (t)) (.int .i64 (x)))
                            refine hK.out _ _ (S0 _ HN.out) (fun hHeld => ?_)
                            replace HC := Lib.hid (show Blk _ bC 23 #[.int .i64 p, .int .i64 1, .int .i64 t, .int .i64 x] from (((HC.out.set_ 0 _).set_ 1 _).set_ 2 _).set_ 3 _)
                            replace HA := Lib.hid (blk_set4 HA.out HNE.out (.int .i64 (p)) (.int .i64 (1)) (.int .i64 (t)) (.int .i64 (x)))
                            replace HB := HN
                            clear hK K HN q0 q1 q2 q3 p0 p1 p2 p3
                            try simp only [Act.put, List.setIfInBounds_toArray, List.set_cons_zero, List.set_cons_succ]
                            generalize ((((V14.setCell _ _).setCell _ _).setCell _ _).setCell _ _) = V15 at *
                            refine wpAnyH_done (by kernel_rfl) ?_ _
                            go_wp2_with fail
                            go_meet
                            exact ⟨⟨_, _, rfl, rfl, HA.out, HC.out⟩, HB.out⟩
                          exact AllReadyH.nil
                        exact AllReadyH.nil
                      exact AllReadyH.nil
                    refine AllReadyH.cons (by simp only [List.getElem?_toArray, List.getElem?_cons_succ, List.getElem?_cons_zero]; rfl) (fun K hK => ?_) ?_
                    · go_simp
                      have HN := Lib.hid (HB.out.alloc HB.out.size (.cells #[.int .i64 0, .int .i64 0, .int .i64 0, .int .i64 0] 23))
                      refine hK.out _ _ (S0 _ HN.out) (fun hHeld => ?_)
                      have HC := Lib.hid (Blk.new V11 23 #[.int .i64 0, .int .i64 0, .int .i64 0, .int .i64 0])
                      have GC := Lib.hid HB.out.size
                      have HNE := Lib.hid (show bA ≠ V11.heap.size from Nat.ne_of_lt HA.out.lt)
                      replace HA := Lib.hid (HA.out.alloc (.cells #[.int .i64 0, .int .i64 0, .int .i64 0, .int .i64 0] 23))
                      replace HB := HN
                      clear hK K HN
                      try simp only [Act.put, List.setIfInBounds_toArray, List.set_cons_zero, List.set_cons_succ]
                      generalize V11.alloc (.cells #[.int .i64 0, .int .i64 0, .int .i64 0, .int .i64 0] 23) = V16 at *
                      generalize V11.heap.size = bC at *
                      refine wpAnyH_ready (rs := [13]) (by kernel_rfl) (by simp) ?_
                      refine AllReadyH.cons (by simp only [List.getElem?_toArray, List.getElem?_cons_succ, List.getElem?_cons_zero]; rfl) (fun K hK => ?_) ?_
                      · go_simp
                        go_at_call 10
                        with_reducible refine (of21_spec p 1 t x _).mono ?_
                        rintro e V17 ⟨rfl, hbn⟩
                        go_wp2_with fail
                        have HN := Lib.hid (pure_below HB.out hbn)
                        refine hK.out _ _ (S0 _ HN.out) (fun hHeld => ?_)
                        replace HA := Lib.hid (HA.out.pure hbn)
                        replace HC := Lib.hid (HC.out.pure hbn)
                        replace HB := HN
                        clear hK K hbn HN
                        try simp only [Act.put, List.setIfInBounds_toArray, List.set_cons_zero, List.set_cons_succ]
                        refine wpAnyH_ready (rs := [16]) (by kernel_rfl) (by simp) ?_
                        refine AllReadyH.cons (by simp only [List.getElem?_toArray, List.getElem?_cons_succ, List.getElem?_cons_zero]; rfl) (fun K hK => ?_) ?_
                        · have q0 := cell0 HA.out
                          have p0 := HA.out.frozen 0
                          have q1 := cell1 HA.out
                          have p1 := HA.out.frozen 1
                          have q2 := cell2 HA.out
                          have p2 := HA.out.frozen 2
                          have q3 := cell3 HA.out
                          have p3 := HA.out.frozen 3
                          go_simp
                          have HN := Lib.hid (bset4 _ HB.out GA.out (.int .i64 (p)) (.int .i64 (x)) (.int .i64 (t)) (.int .i64 (1)))
                          refine hK.out _ _ (S0 _ HN.out) (fun hHeld => ?_)
                          replace HA := Lib.hid (show Blk _ bA 23 #[.int .i64 p, .int .i64 x, .int .i64 t, .int .i64 1] from (((HA.out.set_ 0 _).set_ 1 _).set_ 2 _).set_ 3 _)
                          replace HC := Lib.hid (blk_set4 HC.out (Ne.symm HNE.out) (.int .i64 (p)) (.int .i64 (x)) (.int .i64 (t)) (.int .i64 (1)))
                          replace HB := HN
                          clear hK K HN q0 q1 q2 q3 p0 p1 p2 p3
                          try simp only [Act.put, List.setIfInBounds_toArray, List.set_cons_zero, List.set_cons_succ]
                          generalize ((((V17.setCell _ _).setCell _ _).setCell _ _).setCell _ _) = V18 at *
                          refine wpAnyH_ready (rs := [17]) (by kernel_rfl) (by simp) ?_
                          refine AllReadyH.cons (by simp only [List.getElem?_toArray, List.getElem?_cons_succ, List.getElem?_cons_zero]; rfl) (fun K hK => ?_) ?_
                          · have q0 := cell0 HC.out
                            have p0 := HC.out.frozen 0
                            have q1 := cell1 HC.out
                            have p1 := HC.out.frozen 1
                            have q2 := cell2 HC.out
                            have p2 := HC.out.frozen 2
                            have q3 := cell3 HC.out
                            have p3 := HC.out.frozen 3
                            go_simp
                            have HN := Lib.hid (bset4 _ HB.out GC.out (.int .i64 (p)) (.int .i64 (1)) (.int .i64 (t)) (.int .i64 (x)))
                            refine hK.out _ _ (S0 _ HN.out) (fun hHeld => ?_)
                            replace HC := Lib.hid (show Blk _ bC 23 #[.int .i64 p, .int .i64 1, .int .i64 t, .int .i64 x] from (((HC.out.set_ 0 _).set_ 1 _).set_ 2 _).set_ 3 _)
                            replace HA := Lib.hid (blk_set4 HA.out HNE.out (.int .i64 (p)) (.int .i64 (1)) (.int .i64 (t)) (.int .i64 (x)))
                            replace HB := HN
                            clear hK K HN q0 q1 q2 q3 p0 p1 p2 p3
                            try simp only [Act.put, List.setIfInBounds_toArray, List.set_cons_zero, List.set_cons_succ]
                            generalize ((((V18.setCell _ _).setCell _ _).setCell _ _).setCell _ _) = V19 at *
                            refine wpAnyH_done (by kernel_rfl) ?_ _
                            go_wp2_with fail
                            go_meet
                            exact ⟨⟨_, _, rfl, rfl, HA.out, HC.out⟩, HB.out⟩
                          exact AllReadyH.nil
                        exact AllReadyH.nil
                      exact AllReadyH.nil
                    exact AllReadyH.nil
                  refine AllReadyH.cons (by simp only [List.getElem?_toArray, List.getElem?_cons_succ, List.getElem?_cons_zero]; rfl) (fun K hK => ?_) ?_
                  · go_simp
                    have HN := Lib.hid (HB.out.alloc HB.out.size (.cells #[.int .i64 0, .int .i64 0, .int .i64 0, .int .i64 0] 23))
                    refine hK.out _ _ (S0 _ HN.out) (fun hHeld => ?_)
                    have HC := Lib.hid (Blk.new V1 23 #[.int .i64 0, .int .i64 0, .int .i64 0, .int .i64 0])
                    have GC := Lib.hid HB.out.size
                    replace HB := HN
                    clear hK K HN
                    try simp only [Act.put, List.setIfInBounds_toArray, List.set_cons_zero, List.set_cons_succ]
                    generalize V1.alloc (.cells #[.int .i64 0, .int .i64 0, .int .i64 0, .int .i64 0] 23) = V20 at *
                    generalize V1.heap.size = bC at *
                    refine wpAnyH_ready (rs := [13, 14]) (by kernel_rfl) (by simp) ?_
                    refine AllReadyH.cons (by simp only [List.getElem?_toArray, List.getElem?_cons_succ, List.getElem?_cons_zero]; rfl) (fun K hK => ?_) ?_
                    · go_simp
                      go_at_call 10
                      with_reducible refine (of21_spec p 1 t x _).mono ?_
                      rintro e V21 ⟨rfl, hbn⟩
                      go_wp2_with fail
                      have HN := Lib.hid (pure_below HB.out hbn)
                      refine hK.out _ _ (S0 _ HN.out) (fun hHeld => ?_)
                      replace HC := Lib.hid (HC.out.pure hbn)
                      replace HB := HN
                      clear hK K hbn HN
                      try simp only [Act.put, List.setIfInBounds_toArray, List.set_cons_zero, List.set_cons_succ]
                      refine wpAnyH_ready (rs := [14]) (by kernel_rfl) (by simp) ?_
                      refine AllReadyH.cons (by simp only [List.getElem?_toArray, List.getElem?_cons_succ, List.getElem?_cons_zero]; rfl) (fun K hK => ?_) ?_
                      · go_simp
                        have HN := Lib.hid (HB.out.alloc HB.out.size (.cells #[.int .i64 0, .int .i64 0, .int .i64 0, .int .i64 0] 23))
                        refine hK.out _ _ (S0 _ HN.out) (fun hHeld => ?_)
                        have HA := Lib.hid (Blk.new V21 23 #[.int .i64 0, .int .i64 0, .int .i64 0, .int .i64 0])
                        have GA := Lib.hid HB.out.size
                        have HNE := Lib.hid (show V21.heap.size ≠ bC from Nat.ne_of_gt HC.out.lt)
                        replace HC := Lib.hid (HC.out.alloc (.cells #[.int .i64 0, .int .i64 0, .int .i64 0, .int .i64 0] 23))
                        replace HB := HN
                        clear hK K HN
                        try simp only [Act.put, List.setIfInBounds_toArray, List.set_cons_zero, List.set_cons_succ]
                        generalize V21.alloc (.cells #[.int .i64 0, .int .i64 0, .int .i64 0, .int .i64 0] 23) = V22 at *
                        generalize V21.heap.size = bA at *
                        refine wpAnyH_ready (rs := [16]) (by kernel_rfl) (by simp) ?_
                        refine AllReadyH.cons (by simp only [List.getElem?_toArray, List.getElem?_cons_succ, List.getElem?_cons_zero]; rfl) (fun K hK => ?_) ?_
                        · have q0 := cell0 HA.out
                          have p0 := HA.out.frozen 0
                          have q1 := cell1 HA.out
                          have p1 := HA.out.frozen 1
                          have q2 := cell2 HA.out
                          have p2 := HA.out.frozen 2
                          have q3 := cell3 HA.out
                          have p3 := HA.out.frozen 3
                          go_simp
                          have HN := Lib.hid (bset4 _ HB.out GA.out (.int .i64 (p)) (.int .i64 (x)) (.int .i64 (t)) (.int .i64 (1)))
                          refine hK.out _ _ (S0 _ HN.out) (fun hHeld => ?_)
                          replace HA := Lib.hid (show Blk _ bA 23 #[.int .i64 p, .int .i64 x, .int .i64 t, .int .i64 1] from (((HA.out.set_ 0 _).set_ 1 _).set_ 2 _).set_ 3 _)
                          replace HC := Lib.hid (blk_set4 HC.out (Ne.symm HNE.out) (.int .i64 (p)) (.int .i64 (x)) (.int .i64 (t)) (.int .i64 (1)))
                          replace HB := HN
                          clear hK K HN q0 q1 q2 q3 p0 p1 p2 p3
                          try simp only [Act.put, List.setIfInBounds_toArray, List.set_cons_zero, List.set_cons_succ]
                          generalize ((((V22.setCell _ _).setCell _ _).setCell _ _).setCell _ _) = V23 at *
                          refine wpAnyH_ready (rs := [17]) (by kernel_rfl) (by simp) ?_
                          refine AllReadyH.cons (by simp only [List.getElem?_toArray, List.getElem?_cons_succ, List.getElem?_cons_zero]; rfl) (fun K hK => ?_) ?_
                          · have q0 := cell0 HC.out
                            have p0 := HC.out.frozen 0
                            have q1 := cell1 HC.out
                            have p1 := HC.out.frozen 1
                            have q2 := cell2 HC.out
                            have p2 := HC.out.frozen 2
                            have q3 := cell3 HC.out
                            have p3 := HC.out.frozen 3
                            go_simp
                            have HN := Lib.hid (bset4 _ HB.out GC.out (.int .i64 (p)) (.int .i64 (1)) (.int .i64 (t)) (.int .i64 (x)))
                            refine hK.out _ _ (S0 _ HN.out) (fun hHeld => ?_)
                            replace HC := Lib.hid (show Blk _ bC 23 #[.int .i64 p, .int .i64 1, .int .i64 t, .int .i64 x] from (((HC.out.set_ 0 _).set_ 1 _).set_ 2 _).set_ 3 _)
                            replace HA := Lib.hid (blk_set4 HA.out HNE.out (.int .i64 (p)) (.int .i64 (1)) (.int .i64 (t)) (.int .i64 (x)))
                            replace HB := HN
                            clear hK K HN q0 q1 q2 q3 p0 p1 p2 p3
                            try simp only [Act.put, List.setIfInBounds_toArray, List.set_cons_zero, List.set_cons_succ]
                            generalize ((((V23.setCell _ _).setCell _ _).setCell _ _).setCell _ _) = V24 at *
                            refine wpAnyH_done (by kernel_rfl) ?_ _
                            go_wp2_with fail
                            go_meet
                            exact ⟨⟨_, _, rfl, rfl, HA.out, HC.out⟩, HB.out⟩
                          exact AllReadyH.nil
                        exact AllReadyH.nil
                      exact AllReadyH.nil
                    refine AllReadyH.cons (by simp only [List.getElem?_toArray, List.getElem?_cons_succ, List.getElem?_cons_zero]; rfl) (fun K hK => ?_) ?_
                    · go_simp
                      have HN := Lib.hid (HB.out.alloc HB.out.size (.cells #[.int .i64 0, .int .i64 0, .int .i64 0, .int .i64 0] 23))
                      refine hK.out _ _ (S0 _ HN.out) (fun hHeld => ?_)
                      have HA := Lib.hid (Blk.new V20 23 #[.int .i64 0, .int .i64 0, .int .i64 0, .int .i64 0])
                      have GA := Lib.hid HB.out.size
                      have HNE := Lib.hid (show V20.heap.size ≠ bC from Nat.ne_of_gt HC.out.lt)
                      replace HC := Lib.hid (HC.out.alloc (.cells #[.int .i64 0, .int .i64 0, .int .i64 0, .int .i64 0] 23))
                      replace HB := HN
                      clear hK K HN
                      try simp only [Act.put, List.setIfInBounds_toArray, List.set_cons_zero, List.set_cons_succ]
                      generalize V20.alloc (.cells #[.int .i64 0, .int .i64 0, .int .i64 0, .int .i64 0] 23) = V25 at *
                      generalize V20.heap.size = bA at *
                      refine wpAnyH_ready (rs := [13]) (by kernel_rfl) (by simp) ?_
                      refine AllReadyH.cons (by simp only [List.getElem?_toArray, List.getElem?_cons_succ, List.getElem?_cons_zero]; rfl) (fun K hK => ?_) ?_
                      · go_simp
                        go_at_call 10
                        with_reducible refine (of21_spec p 1 t x _).mono ?_
                        rintro e V26 ⟨rfl, hbn⟩
                        go_wp2_with fail
                        have HN := Lib.hid (pure_below HB.out hbn)
                        refine hK.out _ _ (S0 _ HN.out) (fun hHeld => ?_)
                        replace HA := Lib.hid (HA.out.pure hbn)
                        replace HC := Lib.hid (HC.out.pure hbn)
                        replace HB := HN
                        clear hK K hbn HN
                        try simp only [Act.put, List.setIfInBounds_toArray, List.set_cons_zero, List.set_cons_succ]
                        refine wpAnyH_ready (rs := [16]) (by kernel_rfl) (by simp) ?_
                        refine AllReadyH.cons (by simp only [List.getElem?_toArray, List.getElem?_cons_succ, List.getElem?_cons_zero]; rfl) (fun K hK => ?_) ?_
                        · have q0 := cell0 HA.out
                          have p0 := HA.out.frozen 0
                          have q1 := cell1 HA.out
                          have p1 := HA.out.frozen 1
                          have q2 := cell2 HA.out
                          have p2 := HA.out.frozen 2
                          have q3 := cell3 HA.out
                          have p3 := HA.out.frozen 3
                          go_simp
                          have HN := Lib.hid (bset4 _ HB.out GA.out (.int .i64 (p)) (.int .i64 (x)) (.int .i64 (t)) (.int .i64 (1)))
                          refine hK.out _ _ (S0 _ HN.out) (fun hHeld => ?_)
                          replace HA := Lib.hid (show Blk _ bA 23 #[.int .i64 p, .int .i64 x, .int .i64 t, .int .i64 1] from (((HA.out.set_ 0 _).set_ 1 _).set_ 2 _).set_ 3 _)
                          replace HC := Lib.hid (blk_set4 HC.out (Ne.symm HNE.out) (.int .i64 (p)) (.int .i64 (x)) (.int .i64 (t)) (.int .i64 (1)))
                          replace HB := HN
                          clear hK K HN q0 q1 q2 q3 p0 p1 p2 p3
                          try simp only [Act.put, List.setIfInBounds_toArray, List.set_cons_zero, List.set_cons_succ]
                          generalize ((((V26.setCell _ _).setCell _ _).setCell _ _).setCell _ _) = V27 at *
                          refine wpAnyH_ready (rs := [17]) (by kernel_rfl) (by simp) ?_
                          refine AllReadyH.cons (by simp only [List.getElem?_toArray, List.getElem?_cons_succ, List.getElem?_cons_zero]; rfl) (fun K hK => ?_) ?_
                          · have q0 := cell0 HC.out
                            have p0 := HC.out.frozen 0
                            have q1 := cell1 HC.out
                            have p1 := HC.out.frozen 1
                            have q2 := cell2 HC.out
                            have p2 := HC.out.frozen 2
                            have q3 := cell3 HC.out
                            have p3 := HC.out.frozen 3
                            go_simp
                            have HN := Lib.hid (bset4 _ HB.out GC.out (.int .i64 (p)) (.int .i64 (1)) (.int .i64 (t)) (.int .i64 (x)))
                            refine hK.out _ _ (S0 _ HN.out) (fun hHeld => ?_)
                            replace HC := Lib.hid (show Blk _ bC 23 #[.int .i64 p, .int .i64 1, .int .i64 t, .int .i64 x] from (((HC.out.set_ 0 _).set_ 1 _).set_ 2 _).set_ 3 _)
                            replace HA := Lib.hid (blk_set4 HA.out HNE.out (.int .i64 (p)) (.int .i64 (1)) (.int .i64 (t)) (.int .i64 (x)))
                            replace HB := HN
                            clear hK K HN q0 q1 q2 q3 p0 p1 p2 p3
                            try simp only [Act.put, List.setIfInBounds_toArray, List.set_cons_zero, List.set_cons_succ]
                            generalize ((((V27.setCell _ _).setCell _ _).setCell _ _).setCell _ _) = V28 at *
                            refine wpAnyH_done (by kernel_rfl) ?_ _
                            go_wp2_with fail
                            go_meet
                            exact ⟨⟨_, _, rfl, rfl, HA.out, HC.out⟩, HB.out⟩
                          exact AllReadyH.nil
                        exact AllReadyH.nil
                      exact AllReadyH.nil
                    exact AllReadyH.nil
                  exact AllReadyH.nil
                refine AllReadyH.cons (by simp only [List.getElem?_toArray, List.getElem?_cons_succ, List.getElem?_cons_zero]; rfl) (fun K hK => ?_) ?_
                · go_simp
                  have HN := Lib.hid (HB.out.alloc HB.out.size (.cells #[.int .i64 0, .int .i64 0, .int .i64 0, .int .i64 0] 23))
                  refine hK.out _ _ (S0 _ HN.out) (fun hHeld => ?_)
                  have HA := Lib.hid (Blk.new W0 23 #[.int .i64 0, .int .i64 0, .int .i64 0, .int .i64 0])
                  have GA := Lib.hid HB.out.size
                  replace HB := HN
                  clear hK K HN
                  try simp only [Act.put, List.setIfInBounds_toArray, List.set_cons_zero, List.set_cons_succ]
                  generalize W0.alloc (.cells #[.int .i64 0, .int .i64 0, .int .i64 0, .int .i64 0] 23) = V29 at *
                  generalize W0.heap.size = bA at *
                  refine wpAnyH_ready (rs := [6, 15]) (by kernel_rfl) (by simp) ?_
                  refine AllReadyH.cons (by simp only [List.getElem?_toArray, List.getElem?_cons_succ, List.getElem?_cons_zero]; rfl) (fun K hK => ?_) ?_
                  · go_simp
                    go_at_call 10
                    with_reducible refine (of21_spec p x t 1 _).mono ?_
                    rintro e V30 ⟨rfl, hbn⟩
                    go_wp2_with fail
                    have HN := Lib.hid (pure_below HB.out hbn)
                    refine hK.out _ _ (S0 _ HN.out) (fun hHeld => ?_)
                    replace HA := Lib.hid (HA.out.pure hbn)
                    replace HB := HN
                    clear hK K hbn HN
                    try simp only [Act.put, List.setIfInBounds_toArray, List.set_cons_zero, List.set_cons_succ]
                    refine wpAnyH_ready (rs := [13, 15]) (by kernel_rfl) (by simp) ?_
                    refine AllReadyH.cons (by simp only [List.getElem?_toArray, List.getElem?_cons_succ, List.getElem?_cons_zero]; rfl) (fun K hK => ?_) ?_
                    · go_simp
                      go_at_call 10
                      with_reducible refine (of21_spec p 1 t x _).mono ?_
                      rintro e V31 ⟨rfl, hbn⟩
                      go_wp2_with fail
                      have HN := Lib.hid (pure_below HB.out hbn)
                      refine hK.out _ _ (S0 _ HN.out) (fun hHeld => ?_)
                      replace HA := Lib.hid (HA.out.pure hbn)
                      replace HB := HN
                      clear hK K hbn HN
                      try simp only [Act.put, List.setIfInBounds_toArray, List.set_cons_zero, List.set_cons_succ]
                      refine wpAnyH_ready (rs := [15]) (by kernel_rfl) (by simp) ?_
                      refine AllReadyH.cons (by simp only [List.getElem?_toArray, List.getElem?_cons_succ, List.getElem?_cons_zero]; rfl) (fun K hK => ?_) ?_
                      · go_simp
                        have HN := Lib.hid (HB.out.alloc HB.out.size (.cells #[.int .i64 0, .int .i64 0, .int .i64 0, .int .i64 0] 23))
                        refine hK.out _ _ (S0 _ HN.out) (fun hHeld => ?_)
                        have HC := Lib.hid (Blk.new V31 23 #[.int .i64 0, .int .i64 0, .int .i64 0, .int .i64 0])
                        have GC := Lib.hid HB.out.size
                        have HNE := Lib.hid (show bA ≠ V31.heap.size from Nat.ne_of_lt HA.out.lt)
                        replace HA := Lib.hid (HA.out.alloc (.cells #[.int .i64 0, .int .i64 0, .int .i64 0, .int .i64 0] 23))
                        replace HB := HN
                        clear hK K HN
                        try simp only [Act.put, List.setIfInBounds_toArray, List.set_cons_zero, List.set_cons_succ]
                        generalize V31.alloc (.cells #[.int .i64 0, .int .i64 0, .int .i64 0, .int .i64 0] 23) = V32 at *
                        generalize V31.heap.size = bC at *
                        refine wpAnyH_ready (rs := [16]) (by kernel_rfl) (by simp) ?_
                        refine AllReadyH.cons (by simp only [List.getElem?_toArray, List.getElem?_cons_succ, List.getElem?_cons_zero]; rfl) (fun K hK => ?_) ?_
                        · have q0 := cell0 HA.out
                          have p0 := HA.out.frozen 0
                          have q1 := cell1 HA.out
                          have p1 := HA.out.frozen 1
                          have q2 := cell2 HA.out
                          have p2 := HA.out.frozen 2
                          have q3 := cell3 HA.out
                          have p3 := HA.out.frozen 3
                          go_simp
                          have HN := Lib.hid (bset4 _ HB.out GA.out (.int .i64 (p)) (.int .i64 (x)) (.int .i64 (t)) (.int .i64 (1)))
                          refine hK.out _ _ (S0 _ HN.out) (fun hHeld => ?_)
                          replace HA := Lib.hid (show Blk _ bA 23 #[.int .i64 p, .int .i64 x, .int .i64 t, .int .i64 1] from (((HA.out.set_ 0 _).set_ 1 _).set_ 2 _).set_ 3 _)
                          replace HC := Lib.hid (blk_set4 HC.out (Ne.symm HNE.out) (.int .i64 (p)) (.int .i64 (x)) (.int .i64 (t)) (.int .i64 (1)))
                          replace HB := HN
                          clear hK K HN q0 q1 q2 q3 p0 p1 p2 p3
                          try simp only [Act.put, List.setIfInBounds_toArray, List.set_cons_zero, List.set_cons_succ]
                          generalize ((((V32.setCell _ _).setCell _ _).setCell _ _).setCell _ _) = V33 at *
                          refine wpAnyH_ready (rs := [17]) (by kernel_rfl) (by simp) ?_
                          refine AllReadyH.cons (by simp only [List.getElem?_toArray, List.getElem?_cons_succ, List.getElem?_cons_zero]; rfl) (fun K hK => ?_) ?_
                          · have q0 := cell0 HC.out
                            have p0 := HC.out.frozen 0
                            have q1 := cell1 HC.out
                            have p1 := HC.out.frozen 1
                            have q2 := cell2 HC.out
                            have p2 := HC.out.frozen 2
                            have q3 := cell3 HC.out
                            have p3 := HC.out.frozen 3
                            go_simp
                            have HN := Lib.hid (bset4 _ HB.out GC.out (.int .i64 (p)) (.int .i64 (1)) (.int .i64 (t)) (.int .i64 (x)))
                            refine hK.out _ _ (S0 _ HN.out) (fun hHeld => ?_)
                            replace HC := Lib.hid (show Blk _ bC 23 #[.int .i64 p, .int .i64 1, .int .i64 t, .int .i64 x] from (((HC.out.set_ 0 _).set_ 1 _).set_ 2 _).set_ 3 _)
                            replace HA := Lib.hid (blk_set4 HA.out HNE.out (.int .i64 (p)) (.int .i64 (1)) (.int .i64 (t)) (.int .i64 (x)))
                            replace HB := HN
                            clear hK K HN q0 q1 q2 q3 p0 p1 p2 p3
                            try simp only [Act.put, List.setIfInBounds_toArray, List.set_cons_zero, List.set_cons_succ]
                            generalize ((((V33.setCell _ _).setCell _ _).setCell _ _).setCell _ _) = V34 at *
                            refine wpAnyH_done (by kernel_rfl) ?_ _
                            go_wp2_with fail
                            go_meet
                            exact ⟨⟨_, _, rfl, rfl, HA.out, HC.out⟩, HB.out⟩
                          exact AllReadyH.nil
                        exact AllReadyH.nil
                      exact AllReadyH.nil
                    refine AllReadyH.cons (by simp only [List.getElem?_toArray, List.getElem?_cons_succ, List.getElem?_cons_zero]; rfl) (fun K hK => ?_) ?_
                    · go_simp
                      have HN := Lib.hid (HB.out.alloc HB.out.size (.cells #[.int .i64 0, .int .i64 0, .int .i64 0, .int .i64 0] 23))
                      refine hK.out _ _ (S0 _ HN.out) (fun hHeld => ?_)
                      have HC := Lib.hid (Blk.new V30 23 #[.int .i64 0, .int .i64 0, .int .i64 0, .int .i64 0])
                      have GC := Lib.hid HB.out.size
                      have HNE := Lib.hid (show bA ≠ V30.heap.size from Nat.ne_of_lt HA.out.lt)
                      replace HA := Lib.hid (HA.out.alloc (.cells #[.int .i64 0, .int .i64 0, .int .i64 0, .int .i64 0] 23))
                      replace HB := HN
                      clear hK K HN
                      try simp only [Act.put, List.setIfInBounds_toArray, List.set_cons_zero, List.set_cons_succ]
                      generalize V30.alloc (.cells #[.int .i64 0, .int .i64 0, .int .i64 0, .int .i64 0] 23) = V35 at *
                      generalize V30.heap.size = bC at *
                      refine wpAnyH_ready (rs := [13]) (by kernel_rfl) (by simp) ?_
                      refine AllReadyH.cons (by simp only [List.getElem?_toArray, List.getElem?_cons_succ, List.getElem?_cons_zero]; rfl) (fun K hK => ?_) ?_
                      · go_simp
                        go_at_call 10
                        with_reducible refine (of21_spec p 1 t x _).mono ?_
                        rintro e V36 ⟨rfl, hbn⟩
                        go_wp2_with fail
                        have HN := Lib.hid (pure_below HB.out hbn)
                        refine hK.out _ _ (S0 _ HN.out) (fun hHeld => ?_)
                        replace HA := Lib.hid (HA.out.pure hbn)
                        replace HC := Lib.hid (HC.out.pure hbn)
                        replace HB := HN
                        clear hK K hbn HN
                        try simp only [Act.put, List.setIfInBounds_toArray, List.set_cons_zero, List.set_cons_succ]
                        refine wpAnyH_ready (rs := [16]) (by kernel_rfl) (by simp) ?_
                        refine AllReadyH.cons (by simp only [List.getElem?_toArray, List.getElem?_cons_succ, List.getElem?_cons_zero]; rfl) (fun K hK => ?_) ?_
                        · have q0 := cell0 HA.out
                          have p0 := HA.out.frozen 0
                          have q1 := cell1 HA.out
                          have p1 := HA.out.frozen 1
                          have q2 := cell2 HA.out
                          have p2 := HA.out.frozen 2
                          have q3 := cell3 HA.out
                          have p3 := HA.out.frozen 3
                          go_simp
                          have HN := Lib.hid (bset4 _ HB.out GA.out (.int .i64 (p)) (.int .i64 (x)) (.int .i64 (t)) (.int .i64 (1)))
                          refine hK.out _ _ (S0 _ HN.out) (fun hHeld => ?_)
                          replace HA := Lib.hid (show Blk _ bA 23 #[.int .i64 p, .int .i64 x, .int .i64 t, .int .i64 1] from (((HA.out.set_ 0 _).set_ 1 _).set_ 2 _).set_ 3 _)
                          replace HC := Lib.hid (blk_set4 HC.out (Ne.symm HNE.out) (.int .i64 (p)) (.int .i64 (x)) (.int .i64 (t)) (.int .i64 (1)))
                          replace HB := HN
                          clear hK K HN q0 q1 q2 q3 p0 p1 p2 p3
                          try simp only [Act.put, List.setIfInBounds_toArray, List.set_cons_zero, List.set_cons_succ]
                          generalize ((((V36.setCell _ _).setCell _ _).setCell _ _).setCell _ _) = V37 at *
                          refine wpAnyH_ready (rs := [17]) (by kernel_rfl) (by simp) ?_
                          refine AllReadyH.cons (by simp only [List.getElem?_toArray, List.getElem?_cons_succ, List.getElem?_cons_zero]; rfl) (fun K hK => ?_) ?_
                          · have q0 := cell0 HC.out
                            have p0 := HC.out.frozen 0
                            have q1 := cell1 HC.out
                            have p1 := HC.out.frozen 1
                            have q2 := cell2 HC.out
                            have p2 := HC.out.frozen 2
                            have q3 := cell3 HC.out
                            have p3 := HC.out.frozen 3
                            go_simp
                            have HN := Lib.hid (bset4 _ HB.out GC.out (.int .i64 (p)) (.int .i64 (1)) (.int .i64 (t)) (.int .i64 (x)))
                            refine hK.out _ _ (S0 _ HN.out) (fun hHeld => ?_)
                            replace HC := Lib.hid (show Blk _ bC 23 #[.int .i64 p, .int .i64 1, .int .i64 t, .int .i64 x] from (((HC.out.set_ 0 _).set_ 1 _).set_ 2 _).set_ 3 _)
                            replace HA := Lib.hid (blk_set4 HA.out HNE.out (.int .i64 (p)) (.int .i64 (1)) (.int .i64 (t)) (.int .i64 (x)))
                            replace HB := HN
                            clear hK K HN q0 q1 q2 q3 p0 p1 p2 p3
                            try simp only [Act.put, List.setIfInBounds_toArray, List.set_cons_zero, List.set_cons_succ]
                            generalize ((((V37.setCell _ _).setCell _ _).setCell _ _).setCell _ _) = V38 at *
                            refine wpAnyH_done (by kernel_rfl) ?_ _
                            go_wp2_with fail
                            go_meet
                            exact ⟨⟨_, _, rfl, rfl, HA.out, HC.out⟩, HB.out⟩
                          exact AllReadyH.nil
                        exact AllReadyH.nil
                      exact AllReadyH.nil
                    exact AllReadyH.nil
                  refine AllReadyH.cons (by simp only [List.getElem?_toArray, List.getElem?_cons_succ, List.getElem?_cons_zero]; rfl) (fun K hK => ?_) ?_
                  · go_simp
                    have HN := Lib.hid (HB.out.alloc HB.out.size (.cells #[.int .i64 0, .int .i64 0, .int .i64 0, .int .i64 0] 23))
                    refine hK.out _ _ (S0 _ HN.out) (fun hHeld => ?_)
                    have HC := Lib.hid (Blk.new V29 23 #[.int .i64 0, .int .i64 0, .int .i64 0, .int .i64 0])
                    have GC := Lib.hid HB.out.size
                    have HNE := Lib.hid (show bA ≠ V29.heap.size from Nat.ne_of_lt HA.out.lt)
                    replace HA := Lib.hid (HA.out.alloc (.cells #[.int .i64 0, .int .i64 0, .int .i64 0, .int .i64 0] 23))
                    replace HB := HN
                    clear hK K HN
                    try simp only [Act.put, List.setIfInBounds_toArray, List.set_cons_zero, List.set_cons_succ]
                    generalize V29.alloc (.cells #[.int .i64 0, .int .i64 0, .int .i64 0, .int .i64 0] 23) = V39 at *
                    generalize V29.heap.size = bC at *
                    refine wpAnyH_ready (rs := [6]) (by kernel_rfl) (by simp) ?_
                    refine AllReadyH.cons (by simp only [List.getElem?_toArray, List.getElem?_cons_succ, List.getElem?_cons_zero]; rfl) (fun K hK => ?_) ?_
                    · go_simp
                      go_at_call 10
                      with_reducible refine (of21_spec p x t 1 _).mono ?_
                      rintro e V40 ⟨rfl, hbn⟩
                      go_wp2_with fail
                      have HN := Lib.hid (pure_below HB.out hbn)
                      refine hK.out _ _ (S0 _ HN.out) (fun hHeld => ?_)
                      replace HA := Lib.hid (HA.out.pure hbn)
                      replace HC := Lib.hid (HC.out.pure hbn)
                      replace HB := HN
                      clear hK K hbn HN
                      try simp only [Act.put, List.setIfInBounds_toArray, List.set_cons_zero, List.set_cons_succ]
                      refine wpAnyH_ready (rs := [13]) (by kernel_rfl) (by simp) ?_
                      refine AllReadyH.cons (by simp only [List.getElem?_toArray, List.getElem?_cons_succ, List.getElem?_cons_zero]; rfl) (fun K hK => ?_) ?_
                      · go_simp
                        go_at_call 10
                        with_reducible refine (of21_spec p 1 t x _).mono ?_
                        rintro e V41 ⟨rfl, hbn⟩
                        go_wp2_with fail
                        have HN := Lib.hid (pure_below HB.out hbn)
                        refine hK.out _ _ (S0 _ HN.out) (fun hHeld => ?_)
                        replace HA := Lib.hid (HA.out.pure hbn)
                        replace HC := Lib.hid (HC.out.pure hbn)
                        replace HB := HN
                        clear hK K hbn HN
                        try simp only [Act.put, List.setIfInBounds_toArray, List.set_cons_zero, List.set_cons_succ]
                        refine wpAnyH_ready (rs := [16]) (by kernel_rfl) (by simp) ?_
                        refine AllReadyH.cons (by simp only [List.getElem?_toArray, List.getElem?_cons_succ, List.getElem?_cons_zero]; rfl) (fun K hK => ?_) ?_
                        · have q0 := cell0 HA.out
                          have p0 := HA.out.frozen 0
                          have q1 := cell1 HA.out
                          have p1 := HA.out.frozen 1
                          have q2 := cell2 HA.out
                          have p2 := HA.out.frozen 2
                          have q3 := cell3 HA.out
                          have p3 := HA.out.frozen 3
                          go_simp
                          have HN := Lib.hid (bset4 _ HB.out GA.out (.int .i64 (p)) (.int .i64 (x)) (.int .i64 (t)) (.int .i64 (1)))
                          refine hK.out _ _ (S0 _ HN.out) (fun hHeld => ?_)
                          replace HA := Lib.hid (show Blk _ bA 23 #[.int .i64 p, .int .i64 x, .int .i64 t, .int .i64 1] from (((HA.out.set_ 0 _).set_ 1 _).set_ 2 _).set_ 3 _)
                          replace HC := Lib.hid (blk_set4 HC.out (Ne.symm HNE.out) (.int .i64 (p)) (.int .i64 (x)) (.int .i64 (t)) (.int .i64 (1)))
                          replace HB := HN
                          clear hK K HN q0 q1 q2 q3 p0 p1 p2 p3
                          try simp only [Act.put, List.setIfInBounds_toArray, List.set_cons_zero, List.set_cons_succ]
                          generalize ((((V41.setCell _ _).setCell _ _).setCell _ _).setCell _ _) = V42 at *
                          refine wpAnyH_ready (rs := [17]) (by kernel_rfl) (by simp) ?_
                          refine AllReadyH.cons (by simp only [List.getElem?_toArray, List.getElem?_cons_succ, List.getElem?_cons_zero]; rfl) (fun K hK => ?_) ?_
                          · have q0 := cell0 HC.out
                            have p0 := HC.out.frozen 0
                            have q1 := cell1 HC.out
                            have p1 := HC.out.frozen 1
                            have q2 := cell2 HC.out
                            have p2 := HC.out.frozen 2
                            have q3 := cell3 HC.out
                            have p3 := HC.out.frozen 3
                            go_simp
                            have HN := Lib.hid (bset4 _ HB.out GC.out (.int .i64 (p)) (.int .i64 (1)) (.int .i64 (t)) (.int .i64 (x)))
                            refine hK.out _ _ (S0 _ HN.out) (fun hHeld => ?_)
                            replace HC := Lib.hid (show Blk _ bC 23 #[.int .i64 p, .int .i64 1, .int .i64 t, .int .i64 x] from (((HC.out.set_ 0 _).set_ 1 _).set_ 2 _).set_ 3 _)
                            replace HA := Lib.hid (blk_set4 HA.out HNE.out (.int .i64 (p)) (.int .i64 (1)) (.int .i64 (t)) (.int .i64 (x)))
                            replace HB := HN
                            clear hK K HN q0 q1 q2 q3 p0 p1 p2 p3
                            try simp only [Act.put, List.setIfInBounds_toArray, List.set_cons_zero, List.set_cons_succ]
                            generalize ((((V42.setCell _ _).setCell _ _).setCell _ _).setCell _ _) = V43 at *
                            refine wpAnyH_done (by kernel_rfl) ?_ _
                            go_wp2_with fail
                            go_meet
                            exact ⟨⟨_, _, rfl, rfl, HA.out, HC.out⟩, HB.out⟩
                          exact AllReadyH.nil
                        exact AllReadyH.nil
                      exact AllReadyH.nil
                    exact AllReadyH.nil
                  exact AllReadyH.nil
                refine AllReadyH.cons (by simp only [List.getElem?_toArray, List.getElem?_cons_succ, List.getElem?_cons_zero]; rfl) (fun K hK => ?_) ?_
                · go_simp
                  have HN := Lib.hid (HB.out.alloc HB.out.size (.cells #[.int .i64 0, .int .i64 0, .int .i64 0, .int .i64 0] 23))
                  refine hK.out _ _ (S0 _ HN.out) (fun hHeld => ?_)
                  have HC := Lib.hid (Blk.new W0 23 #[.int .i64 0, .int .i64 0, .int .i64 0, .int .i64 0])
                  have GC := Lib.hid HB.out.size
                  replace HB := HN
                  clear hK K HN
                  try simp only [Act.put, List.setIfInBounds_toArray, List.set_cons_zero, List.set_cons_succ]
                  generalize W0.alloc (.cells #[.int .i64 0, .int .i64 0, .int .i64 0, .int .i64 0] 23) = V44 at *
                  generalize W0.heap.size = bC at *
                  refine wpAnyH_ready (rs := [6, 14]) (by kernel_rfl) (by simp) ?_
                  refine AllReadyH.cons (by simp only [List.getElem?_toArray, List.getElem?_cons_succ, List.getElem?_cons_zero]; rfl) (fun K hK => ?_) ?_
                  · go_simp
                    go_at_call 10
                    with_reducible refine (of21_spec p x t 1 _).mono ?_
                    rintro e V45 ⟨rfl, hbn⟩
                    go_wp2_with fail
                    have HN := Lib.hid (pure_below HB.out hbn)
                    refine hK.out _ _ (S0 _ HN.out) (fun hHeld => ?_)
                    replace HC := Lib.hid (HC.out.pure hbn)
                    replace HB := HN
                    clear hK K hbn HN
                    try simp only [Act.put, List.setIfInBounds_toArray, List.set_cons_zero, List.set_cons_succ]
                    refine wpAnyH_ready (rs := [13, 14]) (by kernel_rfl) (by simp) ?_
                    refine AllReadyH.cons (by simp only [List.getElem?_toArray, List.getElem?_cons_succ, List.getElem?_cons_zero]; rfl) (fun K hK => ?_) ?_
                    · go_simp
                      go_at_call 10
                      with_reducible refine (of21_spec p 1 t x _).mono ?_
                      rintro e V46 ⟨rfl, hbn⟩
                      go_wp2_with fail
                      have HN := Lib.hid (pure_below HB.out hbn)
                      refine hK.out _ _ (S0 _ HN.out) (fun hHeld => ?_)
                      replace HC := Lib.hid (HC.out.pure hbn)
                      replace HB := HN
                      clear hK K hbn HN
                      try simp only [Act.put, List.setIfInBounds_toArray, List.set_cons_zero, List.set_cons_succ]
                      refine wpAnyH_ready (rs := [14]) (by kernel_rfl) (by simp) ?_
                      refine AllReadyH.cons (by simp only [List.getElem?_toArray, List.getElem?_cons_succ, List.getElem?_cons_zero]; rfl) (fun K hK => ?_) ?_
                      · go_simp
                        have HN := Lib.hid (HB.out.alloc HB.out.size (.cells #[.int .i64 0, .int .i64 0, .int .i64 0, .int .i64 0] 23))
                        refine hK.out _ _ (S0 _ HN.out) (fun hHeld => ?_)
                        have HA := Lib.hid (Blk.new V46 23 #[.int .i64 0, .int .i64 0, .int .i64 0, .int .i64 0])
                        have GA := Lib.hid HB.out.size
                        have HNE := Lib.hid (show V46.heap.size ≠ bC from Nat.ne_of_gt HC.out.lt)
                        replace HC := Lib.hid (HC.out.alloc (.cells #[.int .i64 0, .int .i64 0, .int .i64 0, .int .i64 0] 23))
                        replace HB := HN
                        clear hK K HN
                        try simp only [Act.put, List.setIfInBounds_toArray, List.set_cons_zero, List.set_cons_succ]
                        generalize V46.alloc (.cells #[.int .i64 0, .int .i64 0, .int .i64 0, .int .i64 0] 23) = V47 at *
                        generalize V46.heap.size = bA at *
                        refine wpAnyH_ready (rs := [16]) (by kernel_rfl) (by simp) ?_
                        refine AllReadyH.cons (by simp only [List.getElem?_toArray, List.getElem?_cons_succ, List.getElem?_cons_zero]; rfl) (fun K hK => ?_) ?_
                        · have q0 := cell0 HA.out
                          have p0 := HA.out.frozen 0
                          have q1 := cell1 HA.out
                          have p1 := HA.out.frozen 1
                          have q2 := cell2 HA.out
                          have p2 := HA.out.frozen 2
                          have q3 := cell3 HA.out
                          have p3 := HA.out.frozen 3
                          go_simp
                          have HN := Lib.hid (bset4 _ HB.out GA.out (.int .i64 (p)) (.int .i64 (x)) (.int .i64 (t)) (.int .i64 (1)))
                          refine hK.out _ _ (S0 _ HN.out) (fun hHeld => ?_)
                          replace HA := Lib.hid (show Blk _ bA 23 #[.int .i64 p, .int .i64 x, .int .i64 t, .int .i64 1] from (((HA.out.set_ 0 _).set_ 1 _).set_ 2 _).set_ 3 _)
                          replace HC := Lib.hid (blk_set4 HC.out (Ne.symm HNE.out) (.int .i64 (p)) (.int .i64 (x)) (.int .i64 (t)) (.int .i64 (1)))
                          replace HB := HN
                          clear hK K HN q0 q1 q2 q3 p0 p1 p2 p3
                          try simp only [Act.put, List.setIfInBounds_toArray, List.set_cons_zero, List.set_cons_succ]
                          generalize ((((V47.setCell _ _).setCell _ _).setCell _ _).setCell _ _) = V48 at *
                          refine wpAnyH_ready (rs := [17]) (by kernel_rfl) (by simp) ?_
                          refine AllReadyH.cons (by simp only [List.getElem?_toArray, List.getElem?_cons_succ, List.getElem?_cons_zero]; rfl) (fun K hK => ?_) ?_
                          · have q0 := cell0 HC.out
                            have p0 := HC.out.frozen 0
                            have q1 := cell1 HC.out
                            have p1 := HC.out.frozen 1
                            have q2 := cell2 HC.out
                            have p2 := HC.out.frozen 2
                            have q3 := cell3 HC.out
                            have p3 := HC.out.frozen 3
                            go_simp
                            have HN := Lib.hid (bset4 _ HB.out GC.out (.int .i64 (p)) (.int .i64 (1)) (.int .i64 (t)) (.int .i64 (x)))
                            refine hK.out _ _ (S0 _ HN.out) (fun hHeld => ?_)
                            replace HC := Lib.hid (show Blk _ bC 23 #[.int .i64 p, .int .i64 1, .int .i64 t, .int .i64 x] from (((HC.out.set_ 0 _).set_ 1 _).set_ 2 _).set_ 3 _)
                            replace HA := Lib.hid (blk_set4 HA.out HNE.out (.int .i64 (p)) (.int .i64 (1)) (.int .i64 (t)) (.int .i64 (x)))
                            replace HB := HN
                            clear hK K HN q0 q1 q2 q3 p0 p1 p2 p3
                            try simp only [Act.put, List.setIfInBounds_toArray, List.set_cons_zero, List.set_cons_succ]
                            generalize ((((V48.setCell _ _).setCell _ _).setCell _ _).setCell _ _) = V49 at *
                            refine wpAnyH_done (by kernel_rfl) ?_ _
                            go_wp2_with fail
                            go_meet
                            exact ⟨⟨_, _, rfl, rfl, HA.out, HC.out⟩, HB.out⟩
                          exact AllReadyH.nil
                        exact AllReadyH.nil
                      exact AllReadyH.nil
                    refine AllReadyH.cons (by simp only [List.getElem?_toArray, List.getElem?_cons_succ, List.getElem?_cons_zero]; rfl) (fun K hK => ?_) ?_
                    · go_simp
                      have HN := Lib.hid (HB.out.alloc HB.out.size (.cells #[.int .i64 0, .int .i64 0, .int .i64 0, .int .i64 0] 23))
                      refine hK.out _ _ (S0 _ HN.out) (fun hHeld => ?_)
                      have HA := Lib.hid (Blk.new V45 23 #[.int .i64 0, .int .i64 0, .int .i64 0, .int .i64 0])
                      have GA := Lib.hid HB.out.size
                      have HNE := Lib.hid (show V45.heap.size ≠ bC from Nat.ne_of_gt HC.out.lt)
                      replace HC := Lib.hid (HC.out.alloc (.cells #[.int .i64 0, .int .i64 0, .int .i64 0, .int .i64 0] 23))
                      replace HB := HN
                      clear hK K HN
                      try simp only [Act.put, List.setIfInBounds_toArray, List.set_cons_zero, List.set_cons_succ]
                      generalize V45.alloc (.cells #[.int .i64 0, .int .i64 0, .int .i64 0, .int .i64 0] 23) = V50 at *
                      generalize V45.heap.size = bA at *
                      refine wpAnyH_ready (rs := [13]) (by kernel_rfl) (by simp) ?_
                      refine AllReadyH.cons (by simp only [List.getElem?_toArray, List.getElem?_cons_succ, List.getElem?_cons_zero]; rfl) (fun K hK => ?_) ?_
                      · go_simp
                        go_at_call 10
                        with_reducible refine (of21_spec p 1 t x _).mono ?_
                        rintro e V51 ⟨rfl, hbn⟩
                        go_wp2_with fail
                        have HN := Lib.hid (pure_below HB.out hbn)
                        refine hK.out _ _ (S0 _ HN.out) (fun hHeld => ?_)
                        replace HA := Lib.hid (HA.out.pure hbn)
                        replace HC := Lib.hid (HC.out.pure hbn)
                        replace HB := HN
                        clear hK K hbn HN
                        try simp only [Act.put, List.setIfInBounds_toArray, List.set_cons_zero, List.set_cons_succ]
                        refine wpAnyH_ready (rs := [16]) (by kernel_rfl) (by simp) ?_
                        refine AllReadyH.cons (by simp only [List.getElem?_toArray, List.getElem?_cons_succ, List.getElem?_cons_zero]; rfl) (fun K hK => ?_) ?_
                        · have q0 := cell0 HA.out
                          have p0 := HA.out.frozen 0
                          have q1 := cell1 HA.out
                          have p1 := HA.out.frozen 1
                          have q2 := cell2 HA.out
                          have p2 := HA.out.frozen 2
                          have q3 := cell3 HA.out
                          have p3 := HA.out.frozen 3
                          go_simp
                          have HN := Lib.hid (bset4 _ HB.out GA.out (.int .i64 (p)) (.int .i64 (x)) (.int .i64 (t)) (.int .i64 (1)))
                          refine hK.out _ _ (S0 _ HN.out) (fun hHeld => ?_)
                          replace HA := Lib.hid (show Blk _ bA 23 #[.int .i64 p, .int .i64 x, .int .i64 t, .int .i64 1] from (((HA.out.set_ 0 _).set_ 1 _).set_ 2 _).set_ 3 _)
                          replace HC := Lib.hid (blk_set4 HC.out (Ne.symm HNE.out) (.int .i64 (p)) (.int .i64 (x)) (.int .i64 (t)) (.int .i64 (1)))
                          replace HB := HN
                          clear hK K HN q0 q1 q2 q3 p0 p1 p2 p3
                          try simp only [Act.put, List.setIfInBounds_toArray, List.set_cons_zero, List.set_cons_succ]
                          generalize ((((V51.setCell _ _).setCell _ _).setCell _ _).setCell _ _) = V52 at *
                          refine wpAnyH_ready (rs := [17]) (by kernel_rfl) (by simp) ?_
                          refine AllReadyH.cons (by simp only [List.getElem?_toArray, List.getElem?_cons_succ, List.getElem?_cons_zero]; rfl) (fun K hK => ?_) ?_
                          · have q0 := cell0 HC.out
                            have p0 := HC.out.frozen 0
                            have q1 := cell1 HC.out
                            have p1 := HC.out.frozen 1
                            have q2 := cell2 HC.out
                            have p2 := HC.out.frozen 2
                            have q3 := cell3 HC.out
                            have p3 := HC.out.frozen 3
                            go_simp
                            have HN := Lib.hid (bset4 _ HB.out GC.out (.int .i64 (p)) (.int .i64 (1)) (.int .i64 (t)) (.int .i64 (x)))
                            refine hK.out _ _ (S0 _ HN.out) (fun hHeld => ?_)
                            replace HC := Lib.hid (show Blk _ bC 23 #[.int .i64 p, .int .i64 1, .int .i64 t, .int .i64 x] from (((HC.out.set_ 0 _).set_ 1 _).set_ 2 _).set_ 3 _)
                            replace HA := Lib.hid (blk_set4 HA.out HNE.out (.int .i64 (p)) (.int .i64 (1)) (.int .i64 (t)) (.int .i64 (x)))
                            replace HB := HN
                            clear hK K HN q0 q1 q2 q3 p0 p1 p2 p3
                            try simp only [Act.put, List.setIfInBounds_toArray, List.set_cons_zero, List.set_cons_succ]
                            generalize ((((V52.setCell _ _).setCell _ _).setCell _ _).setCell _ _) = V53 at *
                            refine wpAnyH_done (by kernel_rfl) ?_ _
                            go_wp2_with fail
                            go_meet
                            exact ⟨⟨_, _, rfl, rfl, HA.out, HC.out⟩, HB.out⟩
                          exact AllReadyH.nil
                        exact AllReadyH.nil
                      exact AllReadyH.nil
                    exact AllReadyH.nil
                  refine AllReadyH.cons (by simp only [List.getElem?_toArray, List.getElem?_cons_succ, List.getElem?_cons_zero]; rfl) (fun K hK => ?_) ?_
                  · go_simp
                    have HN := Lib.hid (HB.out.alloc HB.out.size (.cells #[.int .i64 0, .int .i64 0, .int .i64 0, .int .i64 0] 23))
                    refine hK.out _ _ (S0 _ HN.out) (fun hHeld => ?_)
                    have HA := Lib.hid (Blk.new V44 23 #[.int .i64 0, .int .i64 0, .int .i64 0, .int .i64 0])
                    have GA := Lib.hid HB.out.size
                    have HNE := Lib.hid (show V44.heap.size ≠ bC from Nat.ne_of_gt HC.out.lt)
                    replace HC := Lib.hid (HC.out.alloc (.cells #[.int .i64 0, .int .i64 0, .int .i64 0, .int .i64 0] 23))
                    replace HB := HN
                    clear hK K HN
                    try simp only [Act.put, List.setIfInBounds_toArray, List.set_cons_zero, List.set_cons_succ]
                    generalize V44.alloc (.cells #[.int .i64 0, .int .i64 0, .int .i64 0, .int .i64 0] 23) = V54 at *
                    generalize V44.heap.size = bA at *
                    refine wpAnyH_ready (rs := [6]) (by kernel_rfl) (by simp) ?_
                    refine AllReadyH.cons (by simp only [List.getElem?_toArray, List.getElem?_cons_succ, List.getElem?_cons_zero]; rfl) (fun K hK => ?_) ?_
                    · go_simp
                      go_at_call 10
                      with_reducible refine (of21_spec p x t 1 _).mono ?_
                      rintro e V55 ⟨rfl, hbn⟩
                      go_wp2_with fail
                      have HN := Lib.hid (pure_below HB.out hbn)
                      refine hK.out _ _ (S0 _ HN.out) (fun hHeld => ?_)
                      replace HA := Lib.hid (HA.out.pure hbn)
                      replace HC := Lib.hid (HC.out.pure hbn)
                      replace HB := HN
                      clear hK K hbn HN
                      try simp only [Act.put, List.setIfInBounds_toArray, List.set_cons_zero, List.set_cons_succ]
                      refine wpAnyH_ready (rs := [13]) (by kernel_rfl) (by simp) ?_
                      refine AllReadyH.cons (by simp only [List.getElem?_toArray, List.getElem?_cons_succ, List.getElem?_cons_zero]; rfl) (fun K hK => ?_) ?_
                      · go_simp
                        go_at_call 10
                        with_reducible refine (of21_spec p 1 t x _).mono ?_
                        rintro e V56 ⟨rfl, hbn⟩
                        go_wp2_with fail
                        have HN := Lib.hid (pure_below HB.out hbn)
                        refine hK.out _ _ (S0 _ HN.out) (fun hHeld => ?_)
                        replace HA := Lib.hid (HA.out.pure hbn)
                        replace HC := Lib.hid (HC.out.pure hbn)
                        replace HB := HN
                        clear hK K hbn HN
                        try simp only [Act.put, List.setIfInBounds_toArray, List.set_cons_zero, List.set_cons_succ]
                        refine wpAnyH_ready (rs := [16]) (by kernel_rfl) (by simp) ?_
                        refine AllReadyH.cons (by simp only [List.getElem?_toArray, List.getElem?_cons_succ, List.getElem?_cons_zero]; rfl) (fun K hK => ?_) ?_
                        · have q0 := cell0 HA.out
                          have p0 := HA.out.frozen 0
                          have q1 := cell1 HA.out
                          have p1 := HA.out.frozen 1
                          have q2 := cell2 HA.out
                          have p2 := HA.out.frozen 2
                          have q3 := cell3 HA.out
                          have p3 := HA.out.frozen 3
                          go_simp
                          have HN := Lib.hid (bset4 _ HB.out GA.out (.int .i64 (p)) (.int .i64 (x)) (.int .i64 (t)) (.int .i64 (1)))
                          refine hK.out _ _ (S0 _ HN.out) (fun hHeld => ?_)
                          replace HA := Lib.hid (show Blk _ bA 23 #[.int .i64 p, .int .i64 x, .int .i64 t, .int .i64 1] from (((HA.out.set_ 0 _).set_ 1 _).set_ 2 _).set_ 3 _)
                          replace HC := Lib.hid (blk_set4 HC.out (Ne.symm HNE.out) (.int .i64 (p)) (.int .i64 (x)) (.int .i64 (t)) (.int .i64 (1)))
                          replace HB := HN
                          clear hK K HN q0 q1 q2 q3 p0 p1 p2 p3
                          try simp only [Act.put, List.setIfInBounds_toArray, List.set_cons_zero, List.set_cons_succ]
                          generalize ((((V56.setCell _ _).setCell _ _).setCell _ _).setCell _ _) = V57 at *
                          refine wpAnyH_ready (rs := [17]) (by kernel_rfl) (by simp) ?_
                          refine AllReadyH.cons (by simp only [List.getElem?_toArray, List.getElem?_cons_succ, List.getElem?_cons_zero]; rfl) (fun K hK => ?_) ?_
                          · have q0 := cell0 HC.out
                            have p0 := HC.out.frozen 0
                            have q1 := cell1 HC.out
                            have p1 := HC.out.frozen 1
                            have q2 := cell2 HC.out
                            have p2 := HC.out.frozen 2
                            have q3 := cell3 HC.out
                            have p3 := HC.out.frozen 3
                            go_simp
                            have HN := Lib.hid (bset4 _ HB.out GC.out (.int .i64 (p)) (.int .i64 (1)) (.int .i64 (t)) (.int .i64 (x)))
                            refine hK.out _ _ (S0 _ HN.out) (fun hHeld => ?_)
                            replace HC := Lib.hid (show Blk _ bC 23 #[.int .i64 p, .int .i64 1, .int .i64 t, .int .i64 x] from (((HC.out.set_ 0 _).set_ 1 _).set_ 2 _).set_ 3 _)
                            replace HA := Lib.hid (blk_set4 HA.out HNE.out (.int .i64 (p)) (.int .i64 (1)) (.int .i64 (t)) (.int .i64 (x)))
                            replace HB := HN
                            clear hK K HN q0 q1 q2 q3 p0 p1 p2 p3
                            try simp only [Act.put, List.setIfInBounds_toArray, List.set_cons_zero, List.set_cons_succ]
                            generalize ((((V57.setCell _ _).setCell _ _).setCell _ _).setCell _ _) = V58 at *
                            refine wpAnyH_done (by kernel_rfl) ?_ _
                            go_wp2_with fail
                            go_meet
                            exact ⟨⟨_, _, rfl, rfl, HA.out, HC.out⟩, HB.out⟩
                          exact AllReadyH.nil
                        exact AllReadyH.nil
                      exact AllReadyH.nil
                    exact AllReadyH.nil
                  exact AllReadyH.nil
                exact AllReadyH.nil
              case rest =>
                obtain ⟨⟨b, c, rfl, rfl, hX, hY⟩, hB⟩ := hcut
                have HBX := Lib.hid hB
                replace HT := Lib.hid (HT.out.pure hB)
                have m0 := cell_pure hB hp
                have k0 := cell0 hX
                have k1 := cell1 hX
                have k2 := cell2 hX
                have k3 := cell3 hX
                have j0 := cell0 hY
                have j1 := cell1 hY
                have j2 := cell2 hY
                have j3 := cell3 hY
                clear hB hX hY hp
                go_wp2_with fail
                go_region_held3 (fun w' => (w'.cell? ⟨b, 0, none⟩ = some (.int .i64 p) ∧ w'.cell? ⟨b, 1, none⟩ = some (.int .i64 x) ∧ w'.cell? ⟨b, 2, none⟩ = some (.int .i64 t) ∧ w'.cell? ⟨b, 3, none⟩ = some (.int .i64 1)) ∧ (w'.cell? ⟨c, 0, none⟩ = some (.int .i64 p) ∧ w'.cell? ⟨c, 1, none⟩ = some (.int .i64 1) ∧ w'.cell? ⟨c, 2, none⟩ = some (.int .i64 t) ∧ w'.cell? ⟨c, 3, none⟩ = some (.int .i64 x)) ∧ w'.cell? ⟨w.heap.size + 1, i, none⟩ = some (.int .i64 p))
                    (first | with_reducible exact ⟨⟨k0, k1, k2, k3⟩, ⟨j0, j1, j2, j3⟩, m0⟩ | with_reducible exact ⟨⟨rdrw k0, rdrw k1, rdrw k2, rdrw k3⟩, ⟨rdrw j0, rdrw j1, rdrw j2, rdrw j3⟩, rdrw m0⟩)
                    (first
                      | (go_at_call 11; (with_reducible refine (reftells_spec _ 18 18 p x t 1 p 1 t x x kb21 _ HT.out.drew.x (Nat.le_refl _)).mono ?_); rintro e w5 ⟨rfl, hb5⟩; replace k0 := rdrw k0; replace k1 := rdrw k1; replace k2 := rdrw k2; replace k3 := rdrw k3; replace j0 := rdrw j0; replace j1 := rdrw j1; replace j2 := rdrw j2; replace j3 := rdrw j3; replace m0 := rdrw m0; have HBX := Lib.hid (pure_below HBX.out.drew hb5); replace HT := Lib.hid (HT.out.drew.pure hb5); replace k0 := cell_pure hb5 k0; replace k1 := cell_pure hb5 k1; replace k2 := cell_pure hb5 k2; replace k3 := cell_pure hb5 k3; replace j0 := cell_pure hb5 j0; replace j1 := cell_pure hb5 j1; replace j2 := cell_pure hb5 j2; replace j3 := cell_pure hb5 j3; replace m0 := cell_pure hb5 m0; clear hb5)
                      | (go_at_call 11; (with_reducible refine (reftells_spec _ 18 18 p 1 t x p x t 1 p kb21 _ HT.out.x (Nat.le_refl _)).mono ?_); rintro e w6 ⟨rfl, hb5⟩; have HBX := Lib.hid (pure_below HBX.out hb5); replace HT := Lib.hid (HT.out.pure hb5); replace k0 := cell_pure hb5 k0; replace k1 := cell_pure hb5 k1; replace k2 := cell_pure hb5 k2; replace k3 := cell_pure hb5 k3; replace j0 := cell_pure hb5 j0; replace j1 := cell_pure hb5 j1; replace j2 := cell_pure hb5 j2; replace j3 := cell_pure hb5 j3; replace m0 := cell_pure hb5 m0; clear hb5)
                      | (go_at_call 10; (with_reducible refine (of21_spec p 1 t 2 _).mono ?_); rintro e w7 ⟨rfl, hb5⟩; have HBX := Lib.hid (pure_below HBX.out hb5); replace HT := Lib.hid (HT.out.pure hb5); replace k0 := cell_pure hb5 k0; replace k1 := cell_pure hb5 k1; replace k2 := cell_pure hb5 k2; replace k3 := cell_pure hb5 k3; replace j0 := cell_pure hb5 j0; replace j1 := cell_pure hb5 j1; replace j2 := cell_pure hb5 j2; replace j3 := cell_pure hb5 j3; replace m0 := cell_pure hb5 m0; clear hb5)
                      | (go_at_call 11; (with_reducible refine (reftells_spec _ 18 18 p 1 t x p 1 t 2 (IntKind.wrap .i64 (-x)) kb21 _ HT.out.x (Nat.le_refl _)).mono ?_); rintro e w8 ⟨rfl, hb5⟩; have HBX := Lib.hid (pure_below HBX.out hb5); replace HT := Lib.hid (HT.out.pure hb5); replace k0 := cell_pure hb5 k0; replace k1 := cell_pure hb5 k1; replace k2 := cell_pure hb5 k2; replace k3 := cell_pure hb5 k3; replace j0 := cell_pure hb5 j0; replace j1 := cell_pure hb5 j1; replace j2 := cell_pure hb5 j2; replace j3 := cell_pure hb5 j3; replace m0 := cell_pure hb5 m0; clear hb5))
                go_wp2_with fail
                refine ⟨⟨x + 1, by omega, by omega, rfl, pure_below HB3.out HBX.out, HT.out⟩, ?_⟩
                exact (show (10 - (x + 1)).toNat < (10 - x).toNat by omega)
            · go_wp2_with fail
              refine ⟨⟨i + 1, by omega, rfl, pure_below HB2.out HB3.out, HT.out⟩, ?_⟩
              exact (show 14 - (i + 1) < 14 - i by omega)
        · go_wp2_with fail
          refine ⟨⟨t + 1, by omega, by omega, rfl, pure_below HB.out HB2.out, HT.out⟩, ?_⟩
          exact (show (38 - (t + 1)).toNat < (38 - t).toNat by omega)
    · clear HT
      go_wp2_with fail
      go_loopw [8, 9] (fun c _ wr => ∃ k : Nat, k ≤ 256 ∧ c = .int .i64 k ∧ Below w.heap.size w wr) (fun c _ _ => 256 - (intOf c).toNat)
      case atStart => exact ⟨0, by omega, rfl, HB.out⟩
      case round =>
        obtain ⟨c, hc, rfl, hB⟩ := hrel
        replace HB := Lib.hid hB
        clear hB
        by_cases hlt : c < 256
        · obtain ⟨cb, rfl⟩ : ∃ cb : UInt8, c = cb.toNat := ⟨UInt8.ofNat c, by simp [UInt8.toNat_ofNat']; omega⟩
          obtain ⟨wo, rfl⟩ : ∃ wo : World, wo = wr := ⟨_, rfl⟩
          have hcI : (cb.toNat : Int) < 256 := by omega
          go_wp2_with fail
          go_loopw [9] (fun d wr => ∃ k : Nat, k ≤ 10 ∧ d = .int .i64 k ∧ Below wo.heap.size wo wr) (fun d _ => 10 - (intOf d).toNat)
          case atStart => exact ⟨0, by omega, rfl, Below.refl _ _⟩
          case round =>
            obtain ⟨d, hd, rfl, hB⟩ := hrel
            have HB2 := Lib.hid hB
            clear hB
            by_cases hlt2 : d < 10
            · obtain ⟨db, rfl⟩ : ∃ db : UInt8, d = db.toNat := ⟨UInt8.ofNat d, by simp [UInt8.toNat_ofNat']; omega⟩
              have hdI : (db.toNat : Int) < 10 := by omega
              go_wp2_with fail
              go_at_call 12
              refine (refroots_spec _ 4 4 [1, 2, cb, db] _ (isb_lit _ _ _ 4 rfl rfl) (Nat.le_refl _)).mono ?_
              rintro e w5 ⟨rfl, hb⟩
              replace HB2 := Lib.hid (pure_below (HB2.out.alloc HB2.out.size _) hb)
              clear hb
              go_wp2_with fail
              go_at_call 12
              refine (refroots_spec _ 10 10 [1, 2, 3, 4, 5, 6, 7, 8, cb, db] _ (isb_lit _ _ _ 10 rfl rfl) (Nat.le_refl _)).mono ?_
              rintro e w5 ⟨rfl, hb⟩
              replace HB2 := Lib.hid (pure_below (HB2.out.alloc HB2.out.size _) hb)
              clear hb
              go_wp2_with fail
              go_at_call 12
              refine (refroots_spec _ 2 2 [cb, db] _ (isb_lit _ _ _ 2 rfl rfl) (Nat.le_refl _)).mono ?_
              rintro e w5 ⟨rfl, hb⟩
              replace HB2 := Lib.hid (pure_below (HB2.out.alloc HB2.out.size _) hb)
              clear hb
              go_wp2_with fail
              go_at_call 12
              refine (refroots_spec _ 3 3 [9, db, cb] _ (isb_lit _ _ _ 3 rfl rfl) (Nat.le_refl _)).mono ?_
              rintro e w5 ⟨rfl, hb⟩
              replace HB2 := Lib.hid (pure_below (HB2.out.alloc HB2.out.size _) hb)
              clear hb
              go_wp2_with fail
              refine ⟨⟨db.toNat + 1, by omega, rfl, HB2.out⟩, ?_⟩
              exact (show 10 - (db.toNat + 1) < 10 - db.toNat by omega)
            · go_wp2_with fail
              refine ⟨⟨cb.toNat + 1, by omega, rfl, pure_below HB.out HB2.out⟩, ?_⟩
              exact (show 256 - (cb.toNat + 1) < 256 - cb.toNat by omega)
        · go_wp2_with fail
          go_at_call 9
          refine (refworks_spec _).mono ?_
          rintro e w5 ⟨rfl, hb⟩
          replace HB := Lib.hid (pure_below HB.out hb)
          clear hb
          go_wp2_with fail
          go_at_call 12
          refine (refroots_spec none 0 0 [] _ (is_nil_lit _) (Nat.le_refl _)).mono ?_
          rintro e w6 ⟨rfl, hb⟩
          replace HB := Lib.hid (pure_below HB.out hb)
          clear hb
          go_wp2
          go_ret
          exact ⟨rfl, HB.out⟩
open Go.ChangeShapes Go.WideShapes Go.ChangeAt
theorem refKnown_run (W : World) (_ : Nat) : Calls Try.prog 4 #[] W fun e w' => e = .returned (.bool true) ∧ Below W.heap.size W w' := refknown_spec W

set_option maxRecDepth 100000 in
theorem refKnown_lifted (os : Os) (started : os.Started) (H : Type) (enc : TypeId × Value → H) :
    ReturnsInHanded {} Try.checked os 4 .any (Rows.refKnownSpec.pre6 enc Try.prog Try.f4 Rows.refKnownRow.domain false) (Rows.refKnownSpec.post enc Try.prog Try.f4 false true false false) := by
  refine returnsInHanded_of_change (C := Try.checked) acc_own started (by kernel_rfl) Try.func4
    (ChangeSpec.witness6 (enc := enc) (C := Try.checked) false ⟨#[], #[], []⟩ 8 (by kernel_rfl) (by kernel_rfl) (by kernel_rfl) (by kernel_rfl)) ?_
  intro W base args ds gs before hval0 hW hcnd _
  have hval : ∀ (j : Nat) t v, Try.f4.params[j]? = some t → args[j]? = some v → Value.okWide Try.prog W .any base t v := hval0
  have hW' := hW
  obtain ⟨p, q, hA0, hV, rfl, hfz, hnd⟩ := hW
  have hA : DataW.TrodAll enc Try.prog W 0 (fun _ => true) true Try.f4.params.toList args.toList ds p := hA0
  rw [Try.params4] at hA
  obtain ⟨rfl, rfl, rfl⟩ := trodAll_none hA
  obtain ⟨rfl, rfl⟩ := trodVars_none hV
  clear hA0 hval0
  refine (refKnown_run W base).mono fun e W' ⟨he, bel⟩ => ?_
  subst he
  exact ⟨_, rfl, _, _, _, [], [], [], hW', trodAll_mk1 (shut_bool Try.underlying4 _), trodAll_mk0, rfl, bel.frame _, fun h => by cases h⟩

theorem refKnown_holds : Rows.RefKnownSaid :=
  OpenClaim.holds_of_wide 4 Try.f4 rfl rfl rfl rfl rfl rfl rfl ⟨rfl, rfl, rfl, rfl, rfl⟩ rfl rfl rfl rfl rfl (by kernel_rfl) Try.func4 (by kernel_rfl)
    (of_decide_eq_true (by kernel_rfl)) (by unfold Func.isWrapper; rw [if_neg (of_decide_eq_false (by kernel_rfl))]; exact ⟨rfl, rfl⟩)
    (fun os started H enc _ => refKnown_lifted os started H enc)
#print axioms refKnown_holds
end Go.Proofs.Ytmahemllfghdfaa
