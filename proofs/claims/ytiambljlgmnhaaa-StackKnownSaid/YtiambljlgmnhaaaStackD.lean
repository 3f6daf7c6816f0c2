/-
  StackPlays: the stack against the reference, for every sequence of calls.
-/
import Derived.Test.YtiambljlgmnhaaaStackC
namespace Go.Proofs.Ytiambljlgmnhaaa
open Go.RowKit Go.Acc

/-- One call, at place k of the list. -/
def DoAt (w : World) (A : Option Addr) (k : Nat) : Prop :=
  ∃ b off kd nn LA ln lc L, A = some ⟨b, off, none⟩ ∧ w.cell? ⟨b, off + k * 3, none⟩ = some (.int .i64 kd) ∧ w.cell? ⟨b, off + k * 3 + 1, none⟩ = some (.int .i64 nn) ∧ w.cell? ⟨b, off + k * 3 + 2, none⟩ = some (.slice LA ln lc) ∧
    IsV w LA ln L ∧ ln ≤ lc ∧ ln ≤ 9223372036854775807 ∧ -9223372036854775808 ≤ nn ∧ nn ≤ 9223372036854775807
theorem DoAt.pure {w w' : World} {A : Option Addr} {k : Nat} (h : DoAt w A k) (hb : Below w.heap.size w w') : DoAt w' A k := by
  obtain ⟨b, off, kd, nn, LA, ln, lc, L, e, c0, c1, c2, hL, r⟩ := h
  exact ⟨b, off, kd, nn, LA, ln, lc, L, e, cell_pure hb c0, cell_pure hb c1, cell_pure hb c2, hL.pure hb, r⟩

theorem popL_le (l : List V3) (s : Int) : (popL l s).length ≤ l.length := by
  unfold popL; split <;> simp
theorem popR_le (l : List V3) (s : Int) : (popR l s).length ≤ l.length := by
  unfold popR; split <;> simp
theorem fromL_le (l : List V3) (s : Int) : (fromL l s).length ≤ l.length := by
  unfold fromL; split <;> simp
theorem same_yes {A B : Option Addr} {n n' c d : Nat} {l : List V3} {w : World} {nq : Nat} (ha : IsV w A n l) (hb : IsV w B n' l) (hl : l.length ≤ 65536) :
    Calls Try.prog 19 #[.slice A n c, .slice B n' d] (w.drewN nq) fun e w' => e = .returned (.bool true) ∧ ∃ m, w' = (w.drewN nq).drewN m := by
  have h1 := ha.1
  have h2 := hb.1
  refine (same_draws A B n n' c d l l (w.drewN nq) ha hb (by omega) (by omega)).mono ?_
  rintro e w' ⟨rfl, h⟩
  exact ⟨ret_bool (decide_eq_true rfl), h⟩
theorem len_same {B b : Nat} {g : Option Nat} {l : List V3} {w : World} {nq : Nat} (h : Stk w B b g l) :
    Calls Try.prog 21 #[.pointer (some ⟨b, 0, none⟩)] (w.drewN nq) fun e w' => e = .returned (.int .i64 l.length) ∧ w' = w.drewN nq :=
  (len_spec B b g l (w.drewN nq) h).mono fun _ _ h => ⟨h.1, h.2.symm⟩

/-- Both stacks, with the same list, apart from each other. -/
def Two (B bs bm : Nat) (l : List V3) (w0 W : World) : Prop :=
  ∃ gs gm, Stk W B bs gs l ∧ StkR W B bm gm l ∧ bs ≠ bm ∧ (∀ k, gs = some k → gm ≠ some k ∧ k ≠ bm) ∧ (∀ k, gm = some k → k ≠ bs) ∧ Below B w0 W
theorem Two.pure {B bs bm : Nat} {l : List V3} {w0 W W' : World} (h : Two B bs bm l w0 W) (hb : Below W.heap.size W W') (hB : B ≤ W.heap.size) : Two B bs bm l w0 W' := by
  obtain ⟨gs, gm, h1, h2, h3, h4, h5, h6⟩ := h
  exact ⟨gs, gm, h1.pure hb, h2.pure hb, h3, h4, h5, h6.trans (hb.mono hB)⟩

/-- The round's last step: the result of a call is overwritten; both stacks stand. -/
theorem two_end {w W W' : World} {B bs bm N : Nat} {gs gm : Option Nat} {l : List V3} {A : Option Addr} {nq : Nat} (hS : Stk W B bs gs l) (hM : StkR W B bm gm l) (hne : bs ≠ bm) (h1 : ∀ k, gs = some k → gm ≠ some k ∧ k ≠ bm) (h2 : ∀ k, gm = some k → k ≠ bs)
    (hb : bs < N ∧ bm < N ∧ (∀ k, gs = some k → k < N) ∧ (∀ k, gm = some k → k < N)) (hA : ∀ ad, A = some ad → N ≤ ad.block) (hf : Fr (fun k => ∃ ad, A = some ad ∧ k = ad.block) (W.drewN nq) W') (hB : Below B w W) (hBN : B ≤ N) : Two B bs bm l w W' := by
  have hn : ∀ k, k < N → ¬ ∃ ad, A = some ad ∧ k = ad.block := by
    rintro k hk ⟨ad, e, rfl⟩
    have := hA ad e
    omega
  refine ⟨gs, gm, ?_, ?_, hne, h1, h2, (below_drewN hB nq).trans (hf.belowB (fun k hk => hn k (by omega)) (by have := hS.ge; show B ≤ W.heap.size; omega))⟩
  · exact Stk.fr (w := W.drewN nq) hS hf (hn _ hb.1) (fun k hk => hn _ (hb.2.2.1 k hk))
  · exact StkR.fr (w := W.drewN nq) hM hf (hn _ hb.2.1) (fun k hk => hn _ (hb.2.2.2 k hk))

set_option maxRecDepth 100000 in
set_option maxHeartbeats 2000000 in
theorem plays_spec (A : Option Addr) (n c : Nat) (w : World) (hd : ∀ k, k < n → DoAt w A k) (hn : n ≤ 9223372036854775807) :
    Calls Try.prog 3 #[.slice A n c] w fun e w' => e = .returned (.bool true) ∧ Below w.heap.size w w' := by
  go_enter Try.func3, Try.ntmps3
  go_wp2_with fail
  refine (new_spec _).mono ?_
  rintro e w1 ⟨bs, rfl, hS, hb1⟩
  go_wp2_with fail
  refine (rnew_spec _).mono ?_
  rintro e w2 ⟨bm, rfl, hM, hb2⟩
  have hT : Two w.heap.size bs bm [] w w2 := by
    have h1 := hS.ge
    have h2 := hM.ge
    exact ⟨none, none, hS.pure hb2, hM.rebase hb1.size, by omega, fun k h => (by cases h), fun k h => (by cases h), hb1.trans (hb2.mono hb1.size)⟩
  have HD := Lib.hid hd
  clear hS hM hb1 hb2 hd
  go_wp2_with fail
  go_loopw [5] (fun i wr => ∃ (k : Nat) (l : List V3), k ≤ n ∧ k ≤ 60 ∧ i = .int .i64 k ∧ l.length ≤ 30 * k ∧ Two w.heap.size bs bm l w wr) (fun i _ => n - (intOf i).toNat)
  case atStart => exact ⟨0, [], by omega, by omega, rfl, by simp, hT⟩
  case round =>
    obtain ⟨k, l, hk, hk6, rfl, hll, hT⟩ := hrel
    by_cases hlt : k < n ∧ k < 60
    · obtain ⟨hlt, h60⟩ := hlt
      have hd6 : decide ((k : Int) < 60) = true := by simp; omega
      obtain ⟨b, off, kd, nn, LA, ln, lc, L, rfl, d0, d1, d2, hL, hcap, hlen, hn1, hn2⟩ := HD.out k hlt
      obtain ⟨gs, gm, hS, hM, hne, hgs, hgm, hB⟩ := hT
      replace d0 := cell_pure hB d0
      replace d1 := cell_pure hB d1
      replace d2 := cell_pure hB d2
      have HL0 := Lib.hid hL
      have hL := hL.pure hB
      have hX : Blk (wr.alloc (.cells #[.int .i64 kd, .int .i64 nn, .slice LA ln lc] 29)) wr.heap.size 29 #[.int .i64 kd, .int .i64 nn, .slice LA ln lc] := Blk.new _ _ _
      have hal : Below wr.heap.size wr (wr.alloc (.cells #[.int .i64 kd, .int .i64 nn, .slice LA ln lc] 29)) := (Below.refl _ _).alloc (Nat.le_refl _) _
      have HX := Lib.hid hX
      have HAL := Lib.hid hal
      have HS := Lib.hid (hS.pure hal)
      have HM := Lib.hid (hM.pure hal)
      have HSO := Lib.hid hS.ge
      have HMO := Lib.hid hM.ge
      have HL := Lib.hid (hL.pure hal)
      have HBW := Lib.hid hB
      have HGS := Lib.hid hgs
      have HGM := Lib.hid hgm
      have HNE := Lib.hid hne
      have hsz := hB.size
      clear hX hal hS hM hL hB hgs hgm hne
      by_cases k2 : kd % 4 = 2
      · have K2 : (kd % 4 == 2) = true := by simpa using k2
        clear k2
        go_wp2_with (go_at_call 11; refine (bring_spec kd 4 _ (by omega) (by omega)).mono ?_; rintro e w' ⟨rfl, rfl⟩)
        refine (pop_spec _ bs gs l nn _ HS.out hn1 hn2).mono ?_
        rintro e w3 ⟨aA, an, ac, rfl, ha, hS3, hf3⟩
        have hX3 := HX.out.fr hf3 (by have := HSO.out.2.1; omega)
        have hM3 := HM.out.fr hf3 HNE.out.symm (fun k hk => HGM.out k hk)
        have x1 : w3.cell? ⟨wr.heap.size, 1, none⟩ = some (.int .i64 nn) := hX3.cell 1
        have HX3 := Lib.hid hX3
        have HA3 := Lib.hid ha
        have HS3 := Lib.hid hS3
        have HM3 := Lib.hid hM3
        have HF3 := Lib.hid hf3
        clear hX3 ha hS3 hM3 hf3
        go_wp2_with fail
        refine (rpop_spec _ bm gm l nn _ HM3.out).mono ?_
        rintro e w4 ⟨bA, bn, bc, rfl, hb, hM4, hf4⟩
        have HB4 := Lib.hid hb.is
        have HA4 := Lib.hid (HA3.out.fr hf4 (by rintro ad rfl e; have := (HA3.out.addr ad rfl).2.1; have := HMO.out.2.1; simp at *; omega))
        have HS4 := Lib.hid (HS3.out.fr hf4 HNE.out (fun k hk => (HGS.out k hk).2))
        have HF4 := Lib.hid hf4
        obtain ⟨mA, mn, mc, hMb, hMo, hMr⟩ := hM4
        obtain rfl := hMo.1
        have m0 : w4.cell? ⟨bm, 0, none⟩ = some (.slice mA (popR l nn).length mc) := hMb.cell 0
        have HM4 := Lib.hid (show StkR w4 w.heap.size bm gm (popR l nn) from ⟨mA, _, mc, hMb, hMo, hMr⟩)
        have hcl := hMr.2.1
        have hpl : (popL l nn).length ≤ 65536 := Nat.le_trans (popL_le l nn) (by omega)
        clear hb hf4 hMb hMo hMr x1
        go_wp2_with fail
        go_quiet (first | (go_at_call 19; exact Calls.quiet_of (same_yes (HA4.out.is) HB4.out hpl)) | (go_at_call 21; exact Calls.quiet_of_same (len_same HS4.out)))
        go_wp2_with fail
        refine (wreck_spec aA _ an ac _ _ (by exact HA4.out)).mono ?_
        rintro e w5 ⟨rfl, hf5⟩
        have hend : Two w.heap.size bs bm (popR l nn) w w5 := two_end (N := wr.heap.size) HS4.out HM4.out HNE.out HGS.out HGM.out ⟨HSO.out.2.1, HMO.out.2.1, fun k hk => (HSO.out.2.2 k hk).2.1, fun k hk => (HMO.out.2.2 k hk).2.1⟩ (fun ad h => by have := (HA4.out.addr ad h).2.1; simp at this; omega) hf5
          (HBW.out.trans ((HAL.out.mono hsz).trans ((HF3.out.belowB (fun k hk => by have := HSO.out.1; omega) (by simp; omega)).trans (HF4.out.belowB (fun k hk => by have := HMO.out.1; omega) (by have := HF3.out.size; simp at this; omega))))) hsz
        have HE := Lib.hid hend
        clear hend hf5
        go_wp2
        go_roundw
        case rel => exact ⟨k + 1, popR l nn, by omega, by omega, by go_num, Nat.le_trans (popR_le l nn) (by omega), HE.out⟩
        case measure => simp [intOf]; omega
      · have K2 : (kd % 4 == 2) = false := by simpa using k2
        clear k2
        by_cases k3 : kd % 4 = 3
        · have K3 : (kd % 4 == 3) = true := by simpa using k3
          clear k3
          go_wp2_with (go_at_call 11; refine (bring_spec kd 4 _ (by omega) (by omega)).mono ?_; rintro e w' ⟨rfl, rfl⟩)
          refine (from_spec _ bs gs l nn _ HS.out).mono ?_
          rintro e w3 ⟨aA, an, ac, rfl, ha, hf3⟩
          have hX3 := HX.out.pure hf3
          have x1 : w3.cell? ⟨wr.heap.size, 1, none⟩ = some (.int .i64 nn) := hX3.cell 1
          have HA3 := Lib.hid ha
          have HS3 := Lib.hid (HS.out.pure hf3)
          have HM3 := Lib.hid (HM.out.pure hf3)
          have HF3 := Lib.hid hf3
          clear hX3 ha hf3
          go_wp2_with fail
          refine (rfrom_spec _ bm gm l nn _ HM3.out).mono ?_
          rintro e w4 ⟨bA, bn, bc, rfl, hb, hf4⟩
          have HB4 := Lib.hid hb.is
          have HA4 := Lib.hid (HA3.out.pure hf4)
          have HS4 := Lib.hid (HS3.out.pure hf4)
          have HF4 := Lib.hid hf4
          obtain ⟨mA, mn, mc, hMb, hMo, hMr⟩ := HM3.out.pure hf4
          obtain rfl := hMo.1
          have m0 : w4.cell? ⟨bm, 0, none⟩ = some (.slice mA l.length mc) := hMb.cell 0
          have HM4 := Lib.hid (show StkR w4 w.heap.size bm gm l from ⟨mA, _, mc, hMb, hMo, hMr⟩)
          have hpl : (fromL l nn).length ≤ 65536 := Nat.le_trans (fromL_le l nn) (by omega)
          clear hb hf4 hMb hMo hMr x1
          go_wp2_with fail
          go_quiet (first | (go_at_call 19; exact Calls.quiet_of (same_yes (HA4.out.is) HB4.out hpl)) | (go_at_call 21; exact Calls.quiet_of_same (len_same HS4.out)))
          go_wp2_with fail
          refine (wreck_spec aA _ an ac _ _ (by exact HA4.out)).mono ?_
          rintro e w5 ⟨rfl, hf5⟩
          have hend : Two w.heap.size bs bm l w w5 := two_end (N := wr.heap.size) HS4.out HM4.out HNE.out HGS.out HGM.out ⟨HSO.out.2.1, HMO.out.2.1, fun k hk => (HSO.out.2.2 k hk).2.1, fun k hk => (HMO.out.2.2 k hk).2.1⟩ (fun ad h => by have := (HA4.out.addr ad h).2.1; simp at this; omega) hf5
            (HBW.out.trans ((HAL.out.mono hsz).trans ((HF3.out.mono (by simp; omega)).trans (HF4.out.mono (by have := HF3.out.size; simp at this; omega))))) hsz
          have HE := Lib.hid hend
          clear hend hf5
          go_wp2
          go_roundw
          case rel => exact ⟨k + 1, l, by omega, by omega, by go_num, by omega, HE.out⟩
          case measure => simp [intOf]; omega
        · have K3 : (kd % 4 == 3) = false := by simpa using k3
          clear k3
          have h30 : (L.take 30).length ≤ 30 := by rw [List.length_take]; omega
          go_wp2_with (go_at_call 11; refine (bring_spec kd 4 _ (by omega) (by omega)).mono ?_; rintro e w' ⟨rfl, rfl⟩)
          refine (few_spec LA ln lc L _ HL.out hcap hlen).mono ?_
          rintro e w3 ⟨iA, ian, ic, rfl, hi, hf3⟩
          have hX3 := HX.out.pure hf3
          have x2 : w3.cell? ⟨wr.heap.size, 2, none⟩ = some (.slice LA ln lc) := hX3.cell 2
          have HX3 := Lib.hid hX3
          have HI3 := Lib.hid hi
          have HL3 := Lib.hid (HL.out.pure hf3)
          have HS3 := Lib.hid (HS.out.pure hf3)
          have HM3 := Lib.hid (HM.out.pure hf3)
          have HF3 := Lib.hid hf3
          clear hX3 hi hf3
          go_wp2_with fail
          have hs3 : w.heap.size ≤ w3.heap.size := by have := HF3.out.size; simp at this; omega
          have hgsn : ∀ k, (k = bs ∨ some k = gs) → w.heap.size ≤ k ∧ k < wr.heap.size := by
            have h1 := HSO.out
            rintro k (e | e)
            · omega
            · exact ⟨(h1.2.2 _ e.symm).1, (h1.2.2 _ e.symm).2.1⟩
          have hgmn : ∀ k, (k = bm ∨ some k = gm) → w.heap.size ≤ k ∧ k < wr.heap.size := by
            have h1 := HMO.out
            rintro k (e | e)
            · omega
            · exact ⟨(h1.2.2 _ e.symm).1, (h1.2.2 _ e.symm).2.1⟩
          have hi3 : ∀ ad, iA = some ad → wr.heap.size < ad.block ∧ ad.block < w3.heap.size := by
            intro ad h
            have := (HI3.out.addr ad h).2
            simp at this; omega
          have HGSN := Lib.hid hgsn
          have HGMN := Lib.hid hgmn
          have HI3B := Lib.hid hi3
          have HB3 := Lib.hid (HBW.out.trans ((HAL.out.mono hsz).trans (HF3.out.mono (by simp; omega))))
          clear hgsn hgmn hi3
          go_region_held3 (fun w' => w'.cell? ⟨wr.heap.size, 2, none⟩ = some (.slice LA ln lc)) (first | assumption)
            (first
            | (go_at_call 17; refine (push_spec _ bs gs l _ iA ian ic _ (by exact HS3.out) (by exact HI3.out.is) (by omega) (by exact hs3)).mono ?_; rintro e w4 ⟨rfl, gs', hS4, hat4, hf4⟩; have x4 := cell_fr hf4 (p := ⟨wr.heap.size, 2, none⟩) (by exact x2) (fun e => Nat.lt_irrefl _ (HGSN.out _ e).2); have HB4 := Lib.hid (below_fr HB3.out.drew hf4 (fun k e => (HGSN.out k e).1)); have HF4 := Lib.hid hf4; have HAT4 := Lib.hid hat4; have HS4 := Lib.hid hS4; clear hf4 hat4 hS4)
            | (go_at_call 16; refine (few_spec LA ln lc L _ (by exact HL0.out.pure HB4.out) hcap hlen).mono ?_; rintro e w5 ⟨jA, jan, jc, rfl, hj, hf5⟩; have x5 := cell_pure hf5 (by exact x4); have HB5 := Lib.hid (HB4.out.trans (hf5.mono HB4.out.size)); have HF5 := Lib.hid hf5; have HJ5 := Lib.hid hj; clear hf5 hj)
            | (go_at_call 18; refine (rpush_spec w.heap.size bm gm l _ jA jan jc _ (by exact (StkR.fr (w := w3.drew) HM3.out HF4.out (not_two HNE.out.symm fun k hk => (HGS.out k hk).2.symm) (fun k hk => not_two (HGM.out k hk) (fun k' hk' e => (HGS.out k' hk').1 (e ▸ hk)))).pure HF5.out) (by exact HJ5.out.is) (by omega) HB5.out.size).mono ?_; rintro e w6 ⟨rfl, gm', hM6, hat6, hf6⟩; have x6 : w6.cell? ⟨wr.heap.size, 2, none⟩ = some (.slice LA ln lc) := cell_fr hf6 (p := ⟨wr.heap.size, 2, none⟩) (by exact x5) (fun e => Nat.lt_irrefl _ (HGMN.out _ e).2); have HB6 := Lib.hid (below_fr HB5.out hf6 (fun k e => (HGMN.out k e).1)); have HF6 := Lib.hid hf6; have HAT6 := Lib.hid hat6; have HM6 := Lib.hid hM6; clear hf6 hat6 hM6))
          have hS6 : Stk w6 w.heap.size bs gs' (l ++ L.take 30) := by
            have h1 := HS4.out.pure HF5.out
            refine h1.fr HF6.out (not_two HNE.out (fun k hk => HGM.out k hk |>.symm)) (fun k hk => ?_)
            rcases HAT4.out with e | e
            · rw [e] at hk; exact not_two (HGS.out k hk).2 (fun k' hk' e => (HGS.out k hk).1 (e ▸ hk'))
            · rw [e] at hk
              injection hk with hk
              intro h
              have := (HGMN.out k h).2
              have h3 := HF3.out.size
              simp at h3 hk
              omega
          have hI6 : OwnV w6 (wr.heap.size + 1) iA ian ic (L.take 30) := by
            have h1 := (Own.fr (w := w3.drew) HI3.out HF4.out (fun ad h e => by have := (HI3B.out ad h).1; have := (HGSN.out _ e).2; omega)).pure HF5.out
            refine (h1.fr HF6.out (fun ad h e => by have := (HI3B.out ad h).1; have := (HGMN.out _ e).2; omega)).rebase (by simp)
          have hdis : (∀ k, gs' = some k → gm' ≠ some k ∧ k ≠ bm) ∧ (∀ k, gm' = some k → k ≠ bs) := by
            have s3 := HF3.out.size
            have s4 := HF4.out.size
            have s5 := HF5.out.size
            have g4 := HS4.out.ge
            have g6 := HM6.out.ge
            have o1 := HSO.out
            have o2 := HMO.out
            simp at s3 s4
            constructor
            · intro k hk
              have k4 := (g4.2.2 k hk)
              constructor
              · intro hk'
                rcases HAT4.out with e4 | e4 <;> rcases HAT6.out with e6 | e6 <;> rw [e4] at hk <;> rw [e6] at hk'
                · exact (HGS.out k hk).1 hk'
                · injection hk' with hk'
                  have := (o1.2.2 k hk).2.1
                  omega
                · injection hk with hk
                  have := (o2.2.2 k hk').2.1
                  simp at hk
                  omega
                · injection hk with hk
                  injection hk' with hk'
                  simp at hk
                  omega
              · rcases HAT4.out with e4 | e4 <;> rw [e4] at hk
                · exact (HGS.out k hk).2
                · injection hk with hk
                  simp at hk
                  omega
            · intro k hk
              rcases HAT6.out with e6 | e6 <;> rw [e6] at hk
              · exact HGM.out k hk
              · injection hk with hk
                omega
          have HS6 := Lib.hid hS6
          have HI6 := Lib.hid hI6
          have HDIS := Lib.hid hdis
          have hll' : (l ++ L.take 30).length ≤ 30 * (k + 1) := by rw [List.length_append]; omega
          clear hS6 hI6 hdis x2 x4 x5
          have hin : ∀ ad, iA = some ad → (∀ k, k < wr.heap.size → k ≠ ad.block) ∧ (∀ k, gs' = some k → k ≠ ad.block) ∧ (∀ k, gm' = some k → k ≠ ad.block) := by
            intro ad h
            have h1 := HI3B.out ad h
            have o1 := HSO.out
            have o2 := HMO.out
            refine ⟨fun k hk e => by omega, fun k hk e => ?_, fun k hk e => ?_⟩
            · rcases HAT4.out with e4 | e4 <;> rw [e4] at hk
              · have := (o1.2.2 k hk).2.1; omega
              · injection hk with hk; simp at hk; omega
            · have s4 := HF4.out.size
              have s5 := HF5.out.size
              simp at s4
              rcases HAT6.out with e6 | e6 <;> rw [e6] at hk
              · have := (o2.2.2 k hk).2.1; omega
              · injection hk with hk; omega
          have HIN := Lib.hid hin
          clear hin
          go_wp2_with fail
          refine (few_spec LA ln lc L _ (HL0.out.pure HB6.out) hcap hlen).mono ?_
          rintro e w7 ⟨qA, qn, qc, rfl, hq, hf7⟩
          have HQ7 := Lib.hid hq.is
          have HF7 := Lib.hid hf7
          clear hq hf7 x6
          go_wp2_with fail
          refine (same_spec iA qA ian qn ic qc _ _ _ (HI6.out.is.pure HF7.out) HQ7.out (by have := HI6.out.1; omega) (by have := HQ7.out.1; omega)).mono ?_
          rintro e w8 ⟨rfl, hf8⟩
          rw [decide_eq_true rfl]
          have HF8 := Lib.hid (pure_trans HF7.out hf8)
          clear hf8
          go_wp2_with fail
          refine (wreck_spec iA _ ian ic _ _ (HI6.out.pure HF8.out)).mono ?_
          rintro e w9 ⟨rfl, hf9⟩
          have hS9 := (HS6.out.pure HF8.out).fr hf9 (by rintro ⟨ad, h, e⟩; exact (HIN.out ad h).1 bs HSO.out.2.1 e) (by rintro k hk ⟨ad, h, e⟩; exact (HIN.out ad h).2.1 k hk e)
          have hM9 := (HM6.out.pure HF8.out).fr hf9 (by rintro ⟨ad, h, e⟩; exact (HIN.out ad h).1 bm HMO.out.2.1 e) (by rintro k hk ⟨ad, h, e⟩; exact (HIN.out ad h).2.2 k hk e)
          have hB9 : Below w.heap.size w w9 := below_fr (HB6.out.trans (HF8.out.mono HB6.out.size)) hf9 (by rintro k ⟨ad, h, rfl⟩; have := (HI3B.out ad h).1; omega)
          have HS9 := Lib.hid hS9
          have HB9 := Lib.hid hB9
          have o1 := hS9.ge
          have o2 := hM9.ge
          have HO1 := Lib.hid o1
          have HO2 := Lib.hid o2
          obtain ⟨mA, mn, mc, hMb, hMo, hMr⟩ := hM9
          obtain rfl := hMo.1
          have m0 : w9.cell? ⟨bm, 0, none⟩ = some (.slice mA (l ++ L.take 30).length mc) := hMb.cell 0
          have HM9 := Lib.hid (show StkR w9 w.heap.size bm gm' (l ++ L.take 30) from ⟨mA, _, mc, hMb, hMo, hMr⟩)
          clear hS9 hB9 hMb hMo hMr hf9 o1 o2
          go_wp2_with fail
          go_quiet (first | (go_at_call 19; exact Calls.quiet_of (same_yes (Is.nil w9 none) (Is.nil w9 none) (by simp))) | (go_at_call 21; exact Calls.quiet_of_same (len_same HS9.out)))
          go_wp2_with fail
          refine (wreck_spec none 0 0 0 [] _ (Own.nil _ _)).mono ?_
          rintro e w10 ⟨rfl, hf10⟩
          have hend : Two w.heap.size bs bm (l ++ L.take 30) w w10 := two_end (N := w9.heap.size) HS9.out HM9.out HNE.out HDIS.out.1 HDIS.out.2 ⟨HO1.out.2.1, HO2.out.2.1, fun k hk => (HO1.out.2.2 k hk).2.1, fun k hk => (HO2.out.2.2 k hk).2.1⟩ (fun ad h => by cases h) hf10 HB9.out HB9.out.size
          have HE := Lib.hid hend
          clear hend hf10
          go_wp2
          go_roundw
          case rel => exact ⟨k + 1, l ++ L.take 30, by omega, by omega, by go_num, hll', HE.out⟩
          case measure => simp [intOf]; omega
    · have HT := Lib.hid (show Below w.heap.size w wr from by obtain ⟨_, _, _, _, _, _, _, hb⟩ := hT; exact hb)
      clear hT
      by_cases h60 : k < n
      · have hd6 : decide ((k : Int) < 60) = false := by simp; omega
        go_wp2_with fail
        refine (works_spec _).mono ?_
        rintro e w3 ⟨rfl, hb3⟩
        go_wp2
        go_ret
        exact ⟨rfl, HT.out.trans (hb3.mono HT.out.size)⟩
      · go_wp2_with fail
        refine (works_spec _).mono ?_
        rintro e w3 ⟨rfl, hb3⟩
        go_wp2
        go_ret
        exact ⟨rfl, HT.out.trans (hb3.mono HT.out.size)⟩

end Go.Proofs.Ytiambljlgmnhaaa
