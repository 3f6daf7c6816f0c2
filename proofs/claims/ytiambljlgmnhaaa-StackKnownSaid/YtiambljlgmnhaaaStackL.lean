/-
  StackLooks and StackOnes: the walks.
-/
import Derived.Test.YtiambljlgmnhaaaStackC
namespace Go.Proofs.Ytiambljlgmnhaaa
open Go.RowKit Go.Acc

theorem bring_nat (i : Int) (n : Nat) : ∃ k : Nat, i % ((n : Int) + 1) = k ∧ k ≤ n := by
  have h1 := Int.emod_nonneg i (b := (n : Int) + 1) (by omega)
  have h2 := Int.emod_lt_of_pos i (b := (n : Int) + 1) (by omega)
  exact ⟨(i % ((n : Int) + 1)).toNat, by omega, by omega⟩
theorem ones_list (m : List V3) (k p q : Nat) (hpq : p + q ≤ k) : m.drop (k - (p + q)) = (m.take (k - p)).drop (k - p - q) ++ m.drop (k - p) := by
  rw [List.drop_take, show k - p - q = k - (p + q) by omega, show k - p - (k - (p + q)) = q by omega]
  conv => lhs; rw [← List.take_append_drop q (m.drop (k - (p + q)))]
  rw [List.drop_drop, show k - (p + q) + q = k - p by omega]
theorem are_yes' {A B : Option Addr} {n n' c d : Nat} {l m : List V3} {e1 : Int} {w : World} (ha : IsV w A n l) (hb : IsV w B n' m) (hlm : l = m) (hl : l.length ≤ 100) :
    Calls Try.prog 23 #[.slice A n c, .int .i64 e1, .int .i64 e1, .slice B n' d] w fun e w' => e = .returned (.bool true) ∧ Below w.heap.size w w' := are_yes ha (hlm ▸ hb) hl

set_option maxRecDepth 100000 in
set_option maxHeartbeats 2000000 in
theorem looks_spec (A : Option Addr) (n c : Nat) (l : List V3) (start : Int) (w : World) (hL : IsV w A n l) (hc : n ≤ c) (hn : n ≤ 9223372036854775807) :
    Calls Try.prog 6 #[.slice A n c, .int .i64 start] w fun e w' => e = .returned (.bool true) ∧ Below w.heap.size w w' := by
  have h30 : (l.take 30).length ≤ 30 := by rw [List.length_take]; omega
  generalize hm : l.take 30 = m at h30
  have HM := Lib.hid hm
  clear hm
  go_enter Try.func6, Try.ntmps6
  go_wp2_with fail
  refine (new_spec _).mono ?_
  rintro e w1 ⟨b, rfl, hS, hb1⟩
  go_wp2_with fail
  refine (few_spec A n c l _ (hL.pure hb1) hc hn).mono ?_
  rw [HM.out]
  rintro e w2 ⟨iA, i, ic, rfl, hi, hb2⟩
  go_wp2_with fail
  refine (push_spec _ b none [] m iA i ic _ (hS.pure hb2) hi.is (by simp; omega) (Nat.le_trans hb1.size hb2.size)).mono ?_
  rintro e w3 ⟨rfl, g, hS3, _, hf3⟩
  have hi3 : IsV w3 iA i m := (hi.fr hf3 (by
    rintro ad h (e | e)
    · have := hS.ge; have := (hi.addr ad h).2.1; omega
    · cases e)).is
  have hB3 : Below w.heap.size w w3 := below_fr (hb1.trans (hb2.mono hb1.size)) hf3 (by
    rintro k (e | e)
    · have := hS.ge; omega
    · cases e)
  rw [List.nil_append] at hS3
  have hl := hi3.1
  have hil : i ≤ 30 := by omega
  have hic := hi.cap.1
  obtain ⟨k, hk, hki⟩ := bring_nat start i
  have HK := Lib.hid hk
  have HI := Lib.hid hi3
  have HB := Lib.hid hB3
  have HS := Lib.hid hS3
  have HL := Lib.hid hl
  clear hL hS hb1 hb2 hi hS3 hf3 hi3 hB3 hk hl
  go_wp2_with fail
  refine (bring_spec start ((i : Int) + 1) _ (by omega) (by omega)).mono ?_
  rintro e w' ⟨rfl, rfl⟩
  rw [HK.out]
  go_wp2_with fail
  obtain ⟨f1, _, f2⟩ := from_yes m k (by rw [HL.out]; exact hki)
  refine (from_spec _ b g m k _ HS.out).mono ?_
  rw [f1, f2]
  rintro e w4 ⟨xA, xn, xc, rfl, hx, hb4⟩
  have HX := Lib.hid hx.is
  have HB4 := Lib.hid hb4
  clear hx hb4 f1 f2
  go_wp2_with fail
  obtain ⟨f1, _, f2⟩ := from_yes m 0 (by omega)
  refine (from_spec _ b g m 0 _ (HS.out.pure HB4.out)).mono ?_
  rw [show fromL m 0 = m from by simpa using f1, show fromE m 0 = 0 from by simpa using f2]
  rintro e w5 ⟨yA, yn, yc, rfl, hy, hb5⟩
  have HY := Lib.hid hy.is
  have HX5 := Lib.hid (HX.out.pure hb5)
  have HB5 := Lib.hid (pure_trans HB4.out hb5)
  clear hy hb5 f1 f2
  go_wp2_with fail
  obtain ⟨f1, _, f2⟩ := from_no m ((i : Int) + 1 + k) (.inr (by rw [HL.out]; omega))
  refine (from_spec _ b g m _ _ (HS.out.pure HB5.out)).mono ?_
  rw [f1, f2]
  rintro e w6 ⟨zA, zn, zc, rfl, _, hb6⟩
  have HY6 := Lib.hid (HY.out.pure hb6)
  have HX6 := Lib.hid (HX5.out.pure hb6)
  have hb7 := pure_trans HB5.out hb6
  have HB6 := Lib.hid hb7
  have HI6 := Lib.hid (HI.out.pure hb7)
  clear hb6 hb7 f1 f2
  have hkl : (m.drop k).length ≤ 100 := by rw [List.length_drop]; omega
  go_wp2_with fail
  all_goals
    refine (are_yes HX6.out (by first | exact HI6.out.cut1 vc_len | exact HI6.out.cut0 (by assumption) hic) hkl).mono ?_
    rintro e w7 ⟨rfl, hb7⟩
    have HY7 := Lib.hid (HY6.out.pure hb7)
    have HI7 := Lib.hid (HI6.out.pure hb7)
    have HB7 := Lib.hid (pure_trans HB6.out hb7)
    clear hb7
    go_wp2_with fail
    refine (are_yes HY7.out HI7.out (by omega)).mono ?_
    rintro e w8 ⟨rfl, hb8⟩
    have HB8 := Lib.hid (pure_trans HB7.out hb8)
    clear hb8
    go_wp2_with fail
    refine (len_spec _ b g m _ (HS.out.pure HB8.out)).mono ?_
    rw [HL.out]
    rintro e w' ⟨rfl, rfl⟩
    go_wp2_with fail
    refine (works_spec _).mono ?_
    rintro e w9 ⟨rfl, hb9⟩
    have HB9 := Lib.hid (pure_trans HB8.out hb9)
    clear hb9
    go_wp2
    go_ret
    exact ⟨rfl, HB.out.trans (HB9.out.mono HB.out.size)⟩

set_option maxRecDepth 100000 in
set_option maxHeartbeats 4000000 in
theorem ones_spec (A : Option Addr) (n c : Nat) (l : List V3) (x y : Int) (w : World) (hL : IsV w A n l) (hc : n ≤ c) (hn : n ≤ 9223372036854775807) :
    Calls Try.prog 5 #[.slice A n c, .int .i64 x, .int .i64 y] w fun e w' => e = .returned (.bool true) ∧ Below w.heap.size w w' := by
  have h30 : (l.take 30).length ≤ 30 := by rw [List.length_take]; omega
  generalize hm : l.take 30 = m at h30
  have HM := Lib.hid hm
  clear hm
  go_enter Try.func5, Try.ntmps5
  go_wp2_with fail
  refine (new_spec _).mono ?_
  rintro e w1 ⟨a, rfl, hS, hb1⟩
  go_wp2_with fail
  refine (new_spec _).mono ?_
  rintro e w1' ⟨b, rfl, hT, hb1'⟩
  go_wp2_with fail
  have hb2' := pure_trans hb1 hb1'
  refine (few_spec A n c l _ (hL.pure hb2') hc hn).mono ?_
  rw [HM.out]
  rintro e w2 ⟨iA, i, ic, rfl, hi, hb2⟩
  have h0 : a < b := by have h1 := hS.ge.2.1; have h2 := hT.ge.1; omega
  have h0b : b < w1'.heap.size := hT.ge.2.1
  have hib : ∀ ad, iA = some ad → b < ad.block ∧ ad.block < w2.heap.size := fun ad h => by have := (hi.addr ad h).2; omega
  have hwa : w.heap.size ≤ a := hS.ge.1
  go_wp2_with fail
  refine (push_spec _ a none [] m iA i ic _ ((hS.pure hb1').pure hb2) hi.is (by simp; omega) (Nat.le_trans hb2'.size hb2.size)).mono ?_
  rw [List.nil_append]
  rintro e w3 ⟨rfl, g, hS3, hat3, hf3⟩
  have hi3 : IsV w3 iA i m := (hi.fr hf3 (by
    rintro ad h (e | e)
    · have := hib ad h; omega
    · cases e)).is
  have hT3 : Stk w3 w.heap.size b none [] := ((hT.pure hb2).fr hf3 (by
    rintro (e | e)
    · omega
    · cases e) (fun k h => by cases h)).rebase hb1.size
  have hB3 : Below w.heap.size w w3 := below_fr (hb2'.trans (hb2.mono hb2'.size)) hf3 (by
    rintro k (e | e)
    · omega
    · cases e)
  have hgb : ∀ k, g = some k → b < k ∧ k < w3.heap.size ∧ k ≠ a := by
    intro k hk
    have h1 := hS3.ge.2.2 k hk
    rcases hat3 with e | e
    · rw [hk] at e; cases e
    · rw [hk] at e; injection e with e
      have := hb2.size
      omega
  have hgi : ∀ k, g = some k → ∀ ad, iA = some ad → ad.block ≠ k := by
    intro k hk ad had
    have h1 := hib ad had
    rcases hat3 with e | e
    · rw [hk] at e; cases e
    · rw [hk] at e; injection e with e
      omega
  have hl := hi3.1
  have hil : i ≤ 30 := by omega
  have hic := hi.cap.1
  have HI := Lib.hid hi3
  have HB := Lib.hid hB3
  have HS := Lib.hid hS3
  have HT := Lib.hid hT3
  have HL := Lib.hid hl
  have HGB := Lib.hid hgb
  have HGI := Lib.hid hgi
  have HIB := Lib.hid hib
  have hw3 := hS3.ge.2.1
  have hw23 := hf3.size
  clear hL hS hb1 hb2 hi hS3 hf3 hi3 hB3 hl hT hb1' hb2' hT3 hib hgb hgi hat3
  go_wp2_with fail
  go_loopw [10] (fun t wr => ∃ k : Nat, k ≤ i ∧ t = .int .i64 k ∧ Stk wr w.heap.size a g m ∧ (∃ gb, Stk wr w.heap.size b gb (m.take k) ∧ (∀ k', gb = some k' → w3.heap.size ≤ k')) ∧ IsV wr iA i m ∧ Below w.heap.size w wr ∧ w3.heap.size ≤ wr.heap.size) (fun t _ => i - (intOf t).toNat)
  case atStart => exact ⟨0, by omega, rfl, HS.out, ⟨none, by simpa using HT.out, fun k h => by cases h⟩, HI.out, HB.out, Nat.le_refl _⟩
  case round =>
    obtain ⟨k, hk, rfl, hS, ⟨gb, hT, hgb⟩, hI, hB, hsz⟩ := hrel
    by_cases hlt : k < i
    · obtain ⟨ib, io, hia, hkm, c0, c1, c2⟩ := isv_at hI hlt
      subst hia
      have hSA := Lib.hid hS
      have hTA := Lib.hid hT
      have hIA := Lib.hid hI
      have hBA := Lib.hid hB
      have hGA := Lib.hid hgb
      clear hS hT hI hB hgb
      have hpu : Below wr.heap.size wr (wr.alloc (.cells #[.int .i64 m[k].1, .int .i64 m[k].2.1, .int .u64 m[k].2.2] 49)) := (Below.refl _ _).alloc (Nat.le_refl _) _
      have hPU := Lib.hid hpu
      clear hpu
      go_wp2_with fail
      refine (push_spec _ b gb (m.take k) [m[k]] _ 1 1 _ (hTA.out.pure hPU.out) (isv_lit wr [m[k]]) (by rw [List.length_take]; simp; omega) (by simp; omega)).mono ?_
      rintro e w5 ⟨rfl, gb', hT5, hat5, hf5⟩
      rw [← List.take_succ_eq_append_getElem hkm] at hT5
      have hge := hTA.out.ge
      have hS5 : Stk w5 w.heap.size a g m := (hSA.out.pure hPU.out).fr hf5 (not_two (by omega) (fun k' hk' => by have := hGA.out k' hk'; omega)) (fun k1 hk1 => not_two (by have := HGB.out k1 hk1; omega) (fun k' hk' => by have := hGA.out k' hk'; have := HGB.out k1 hk1; omega))
      have hI5 : IsV w5 (some ⟨ib, io, none⟩) i m := (hIA.out.pure hPU.out).fr hf5 (fun ad h => not_two (by have := HIB.out ad h; omega) (fun k' hk' => by have := hGA.out k' hk'; have := HIB.out ad h; omega))
      have hB5 : Below w.heap.size w w5 := below_fr (hBA.out.trans (hPU.out.mono hBA.out.size)) hf5 (fun k1 h => by
        rcases h with e | e
        · omega
        · have := hGA.out k1 e.symm; omega)
      have hg5 : ∀ k', gb' = some k' → w3.heap.size ≤ k' := by
        intro k' hk'
        rcases hat5 with e | e
        · rw [e] at hk'; exact hGA.out k' hk'
        · rw [e] at hk'; injection hk' with hk'; simp at hk'; omega
      have hs5 : w3.heap.size ≤ w5.heap.size := by have := hf5.size; simp at this; omega
      have HE := Lib.hid (⟨hS5, ⟨gb', hT5, hg5⟩, hI5, hB5⟩ : Stk w5 w.heap.size a g m ∧ (∃ gb, Stk w5 w.heap.size b gb (m.take (k + 1)) ∧ (∀ k', gb = some k' → w3.heap.size ≤ k')) ∧ IsV w5 (some ⟨ib, io, none⟩) i m ∧ Below w.heap.size w w5)
      clear hS5 hT5 hI5 hB5 hg5 hat5 hf5 hge
      go_wp2
      go_roundw
      case rel => exact ⟨k + 1, by omega, by go_num, HE.out.1, HE.out.2.1, HE.out.2.2.1, HE.out.2.2.2, hs5⟩
      case measure => simp [intOf]; omega
    · obtain rfl : k = i := by omega
      rw [List.take_of_length_le (by rw [HL.out]; exact Nat.le_refl _)] at hT
      have hSA := Lib.hid hS
      have hTA := Lib.hid hT
      have hIA := Lib.hid hI
      have hBA := Lib.hid hB
      have hGA := Lib.hid hgb
      clear hS hT hI hB hgb
      obtain ⟨p, hp, hpi⟩ := bring_nat x k
      obtain ⟨q, hq, hqi⟩ := bring_nat y (k - p)
      have hq' : y % ((k : Int) - p + 1) = q := by rw [← hq]; congr 2; omega
      have HP := Lib.hid hp
      have HQ := Lib.hid hq'
      clear hp hq hq'
      go_wp2_with fail
      refine (bring_spec x ((k : Int) + 1) _ (by omega) (by omega)).mono ?_
      rintro e w' ⟨rfl, rfl⟩
      rw [HP.out]
      go_wp2_with fail
      refine (bring_spec y ((k : Int) - p + 1) _ (by omega) (by omega)).mono ?_
      rintro e w' ⟨rfl, rfl⟩
      rw [HQ.out]
      go_wp2_with fail
      obtain ⟨f1, f2, f3⟩ := pop_yes m p (by rw [HL.out]; exact hpi)
      rw [HL.out] at f1 f2
      refine (pop_spec _ a g m p _ hSA.out (by omega) (by omega)).mono ?_
      rw [f1, f2, f3]
      rintro e w5 ⟨xA, xn, xc, rfl, hx, hS5, hf5⟩
      have hT5 : Stk w5 w.heap.size b gb m := hTA.out.fr hf5 (by omega) (fun k' hk' => by have := hGA.out k' hk'; omega)
      have hB5 : Below w.heap.size w w5 := below_fr hBA.out hf5 (by rintro k' rfl; exact hwa)
      have HX5 := Lib.hid hx
      have HS5 := Lib.hid hS5
      have HT5 := Lib.hid hT5
      have HB5 := Lib.hid hB5
      have hsw := hf5.size
      clear hx hS5 hT5 hB5 hf5 f1 f2 f3
      go_wp2_with fail
      have hl5 : (m.take (k - p)).length = k - p := by rw [List.length_take, HL.out]; omega
      obtain ⟨f1, f2, f3⟩ := pop_yes (m.take (k - p)) q (by omega)
      rw [hl5] at f1 f2
      refine (pop_spec _ a g _ q _ HS5.out (by omega) (by omega)).mono ?_
      rw [f1, f2, f3]
      rintro e w6 ⟨yA, yn, yc, rfl, hy, hS6, hf6⟩
      have HX6 := Lib.hid (HX5.out.fr hf6 (fun ad h e => by have := (HX5.out.addr ad h).2.1; omega))
      have HY6 := Lib.hid hy
      have HS6 := Lib.hid hS6
      have HT6 := Lib.hid (HT5.out.fr hf6 (by omega) (fun k' hk' => by have := hGA.out k' hk'; omega))
      have HB6 := Lib.hid (below_fr HB5.out hf6 (by rintro k' rfl; exact hwa))
      have hsw6 := hf6.size
      clear hy hS6 hf6 f1 f2 f3
      go_wp2_with fail
      obtain ⟨f1, f2, f3⟩ := pop_yes m (p + q) (by rw [HL.out]; omega)
      rw [HL.out] at f1 f2
      have epq : ((p + q : Nat) : Int) = (p : Int) + q := by omega
      rw [epq] at f1 f2 f3
      refine (pop_spec _ b gb _ _ _ HT6.out (by omega) (by omega)).mono ?_
      rw [f1, f2, f3]
      rintro e w7 ⟨zA, zn, zc, rfl, hz, hT7, hf7⟩
      have hbl : b < wr.heap.size := hTA.out.ge.2.1
      have HX7 := Lib.hid (HX6.out.fr hf7 (fun ad h e => by have := (HX6.out.addr ad h).2.1; omega)).is
      have HY7 := Lib.hid (HY6.out.fr hf7 (fun ad h e => by have := (HY6.out.addr ad h).2.1; omega)).is
      have HZ7 := Lib.hid hz.is
      have HS7 := Lib.hid (HS6.out.fr hf7 (by omega) (fun k' hk' => by have := HGB.out k' hk'; omega))
      have HT7 := Lib.hid hT7
      have HB7 := Lib.hid (below_fr HB6.out hf7 (by rintro k' rfl; omega))
      have hal : Below w7.heap.size w7 (w7.alloc (.cells #[] 49)) := (Below.refl _ _).alloc (Nat.le_refl _) _
      have ho : OwnV (w7.alloc (.cells #[] 49)) w7.heap.size (some ⟨w7.heap.size, 0, none⟩) 0 0 [] := ⟨rfl, World.ownsRow_lit w7 #[] 0 (Nat.le_refl _) (Nat.zero_le _) rfl⟩
      have HAL := Lib.hid hal
      have HO := Lib.hid ho
      have hxn := HX7.out.1
      have hyn := HY7.out.1
      have hxn' : xn ≤ 30 := by rw [← hxn, List.length_drop]; omega
      have hyn' : yn ≤ 30 := by rw [← hyn, List.length_drop, List.length_take]; omega
      have hzz : m.drop (k - (p + q)) = (m.take (k - p)).drop (k - p - q) ++ m.drop (k - p) := ones_list m k p q (by omega)
      have HZZ := Lib.hid hzz
      have hzl : (m.drop (k - (p + q))).length ≤ 100 := by rw [List.length_drop]; omega
      clear hz hT7 hf7 f1 f2 f3 epq hal ho hxn hyn hzz
      go_wp2_with (first | (at_builtin; refine wpl_app _ rfl (.tmp 80) (.tmp 81) _ rfl 49 _ 3 24 Try.underlying27 info_v rfl (by omega) vc_len vc_one _ _ _ _ _ rfl HO.out _ _ _ _ rfl (HY7.out.pure HAL.out) (by omega) (by simp) ?_; intro A1 c1 w8 hown1 hfr1 hat1; simp only [Nat.zero_add, List.nil_append] at hown1; have HO1 := Lib.hid hown1; have HB8 := Lib.hid (show Below w7.heap.size w7 w8 from below_fr HAL.out hfr1 (by rintro k' ⟨ad, h, rfl⟩; injection h with h; subst h; simp)); clear hown1 hfr1 hat1) | (at_builtin; refine wpl_app _ rfl (.tmp 82) (.tmp 83) _ rfl 49 _ 3 24 Try.underlying27 info_v rfl (by omega) vc_len vc_one _ _ _ _ _ rfl HO1.out _ _ _ _ rfl (HX7.out.pure HB8.out) (by omega) HB8.out.size ?_; intro A2 c2 w9 hown2 hfr2 hat2; have HO2 := Lib.hid hown2; have HB9 := Lib.hid (show Below w7.heap.size w7 w9 from below_fr HB8.out hfr2 (by rintro k' ⟨ad, h, rfl⟩; exact (HO1.out.addr ad h).2.1)); clear hown2 hfr2 hat2))
      refine (are_yes' (HZ7.out.pure HB9.out) HO2.out.is HZZ.out hzl).mono ?_
      rintro e w10 ⟨rfl, hb10⟩
      have HB10 := Lib.hid (pure_trans HB9.out hb10)
      clear hb10
      go_wp2_with fail
      refine (len_spec _ a g _ _ (HS7.out.pure HB10.out)).mono ?_
      rw [show ((m.take (k - p)).take (k - p - q)).length = k - p - q by rw [List.length_take, List.length_take, HL.out]; omega]
      rintro e w' ⟨rfl, rfl⟩
      go_wp2_with fail
      refine (len_spec _ b gb _ _ (HT7.out.pure HB10.out)).mono ?_
      rw [show (m.take (k - (p + q))).length = k - p - q by rw [List.length_take, HL.out]; omega]
      rintro e w' ⟨rfl, rfl⟩
      go_wp2_with fail
      refine (works_spec _).mono ?_
      rintro e w11 ⟨rfl, hb11⟩
      have HB11 := Lib.hid (pure_trans HB10.out hb11)
      clear hb11
      go_wp2
      go_ret
      exact ⟨rfl, HB7.out.trans (HB11.out.mono HB7.out.size)⟩

end Go.Proofs.Ytiambljlgmnhaaa
