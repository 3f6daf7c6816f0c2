/-
  accordionref00: Short, Texts; the plain cut of a tree.
-/
import Derived.Test.YtfoifdoaleaekaaGreatQa44
namespace Go.Proofs.YtfoifdoaleaekaaGreat
open Go.RowKit Go.Acc
mutual
/-- A tree cut to a number of nodes and a length of strings; what is left of the number. -/
def cutT (m : Nat) : Tr → Nat → Tr × Nat
  | .mk k n u s ks l, left => (.mk k n u (s.take m) ((ks.take 64).map fun x => x.take m) (cutL m l left).1, (cutL m l left).2)
def cutL (m : Nat) : List Tr → Nat → List Tr × Nat
  | [], left => ([], left)
  | t :: r, left => if left = 0 then ([], 0) else ((cutT m t (left - 1)).1 :: (cutL m r (cutT m t (left - 1)).2).1, (cutL m r (cutT m t (left - 1)).2).2)
end
theorem keys_cut (m : Nat) : ∀ (l : List (List UInt8)), keysCost (l.map fun x => x.take m) ≤ l.length * (m + 20)
  | [] => by simp [keysCost]
  | x :: r => by
    have h := keys_cut m r
    have h1 : (x.take m).length ≤ m := by rw [List.length_take]; omega
    simp only [List.map_cons, keysCost, List.length_cons, Nat.add_mul, Nat.one_mul]
    omega
mutual
/-- The nodes of a cut tree, and its cost. -/
theorem cutT_left (m : Nat) : ∀ (t : Tr) (left : Nat), (cutT m t left).2 ≤ left ∧ (cutT m t left).1.cost ≤ 64 + 2 * m + 64 * (m + 20) + (left - (cutT m t left).2) * (104 + 2 * m + 64 * (m + 20))
  | .mk k n u s ks l, left => by
    have h := cutL_left m l left
    rw [cutT]
    refine ⟨h.1, ?_⟩
    simp only [Tr.cost]
    have h1 : (s.take m).length ≤ m := by rw [List.length_take]; omega
    have h2 := keys_cut m (ks.take 64)
    have h3 : (ks.take 64).length ≤ 64 := by rw [List.length_take]; omega
    have h4 := Nat.mul_le_mul_right (m + 20) h3
    omega
theorem cutL_left (m : Nat) : ∀ (l : List Tr) (left : Nat), (cutL m l left).2 ≤ left ∧ Tr.costL (cutL m l left).1 ≤ (left - (cutL m l left).2) * (104 + 2 * m + 64 * (m + 20))
  | [], left => by simp [cutL, Tr.costL]
  | t :: r, left => by
    rw [cutL]
    by_cases h0 : left = 0
    · rw [if_pos h0]
      simp [Tr.costL]
    · rw [if_neg h0]
      have h1 := cutT_left m t (left - 1)
      have h2 := cutL_left m r (cutT m t (left - 1)).2
      refine ⟨by omega, ?_⟩
      simp only [Tr.costL]
      generalize (cutT m t (left - 1)).2 = a at *
      generalize (cutL m r a).2 = b at *
      have e : left - b = (left - 1 - a) + (a - b) + 1 := by omega
      rw [e, Nat.add_mul, Nat.add_mul]
      omega
end
mutual
theorem cutT_pre (m : Nat) : ∀ (t : Tr) (left d : Nat), (Tr.pre d (cutT m t left).1).length + (cutT m t left).2 ≤ left + 1
  | .mk k n u s ks l, left, d => by
    have h := cutL_pre m l left (d + 1)
    rw [cutT, Tr.pre, List.length_cons]
    omega
theorem cutL_pre (m : Nat) : ∀ (l : List Tr) (left d : Nat), (Tr.pre.Tr.preL d (cutL m l left).1).length + (cutL m l left).2 ≤ left
  | [], left, d => by simp [cutL, Tr.pre.Tr.preL]
  | t :: r, left, d => by
    rw [cutL]
    by_cases h0 : left = 0
    · rw [if_pos h0]
      simp [Tr.pre.Tr.preL]
    · rw [if_neg h0]
      have h1 := cutT_pre m t (left - 1) d
      have h2 := cutL_pre m r (cutT m t (left - 1)).2 d
      simp only [Tr.pre.Tr.preL, List.length_append]
      omega
end
/-- All strings of a tree are short. -/
inductive Lim (m : Nat) : Tr → Prop
  | mk {k n : Int} {u : Nat} {s : List UInt8} {ks : List (List UInt8)} {l : List Tr} (h1 : s.length ≤ m) (h2 : ∀ x ∈ ks, x.length ≤ m) (h : ∀ t ∈ l, Lim m t) : Lim m (.mk k n u s ks l)
mutual
theorem cutT_lim (m : Nat) : ∀ (t : Tr) (left : Nat), Lim m (cutT m t left).1
  | .mk k n u s ks l, left => by
    rw [cutT]
    refine .mk (by rw [List.length_take]; omega) (fun x hx => ?_) (cutL_lim m l left)
    obtain ⟨y, _, rfl⟩ := List.mem_map.1 hx
    rw [List.length_take]
    omega
theorem cutL_lim (m : Nat) : ∀ (l : List Tr) (left : Nat), ∀ t ∈ (cutL m l left).1, Lim m t
  | [], left, t, h => by simp [cutL] at h
  | x :: r, left, t, h => by
    rw [cutL] at h
    by_cases h0 : left = 0
    · rw [if_pos h0] at h
      simp at h
    · rw [if_neg h0] at h
      rcases List.mem_cons.1 h with h | h
      · rw [h]
        exact cutT_lim m x (left - 1)
      · exact cutL_lim m r _ t h
end
mutual
theorem cutT_num (m : Nat) : ∀ (t : Tr) (left : Nat), NumT t → NumT (cutT m t left).1
  | .mk k n u s ks l, left, h => by
    cases h with
    | mk h1 h2 h =>
      rw [cutT]
      exact .mk h1 h2 (cutL_num m l left h)
theorem cutL_num (m : Nat) : ∀ (l : List Tr) (left : Nat), (∀ t ∈ l, NumT t) → ∀ t ∈ (cutL m l left).1, NumT t
  | [], left, _, t, h => by simp [cutL] at h
  | x :: r, left, hn, t, h => by
    rw [cutL] at h
    by_cases h0 : left = 0
    · rw [if_pos h0] at h
      simp at h
    · rw [if_neg h0] at h
      rcases List.mem_cons.1 h with h | h
      · rw [h]
        exact cutT_num m x (left - 1) (hn x (by simp))
      · exact cutL_num m r _ (fun y hy => hn y (by simp [hy])) t h
end
theorem keys_lim (m : Nat) : ∀ (l : List (List UInt8)), (∀ x ∈ l, x.length ≤ m) → keysCost l ≤ l.length * (m + 20)
  | [], _ => by simp [keysCost]
  | x :: r, h => by
    have h1 := keys_lim m r (fun y hy => h y (by simp [hy]))
    have h2 := h x (by simp)
    simp only [keysCost, List.length_cons, Nat.add_mul, Nat.one_mul]
    omega
mutual
/-- The cost of a checked tree, by its nodes. -/
theorem cost_val (m : Nat) : ∀ (t : Tr) (d : Nat), Val t → Lim m t → t.cost + m + 60 ≤ (Tr.pre d t).length * (124 + 3 * m)
  | .mk k n u s ks l, d, hv, hl => by
    cases hv with
    | mk g1 _ _ _ gl =>
    cases hl with
    | mk l1 l2 l3 =>
      have h := costL_val m l (d + 1) gl l3
      have hk := keys_lim m ks l2
      simp only [suchT, Bool.and_eq_true, decide_eq_true_eq] at g1
      obtain ⟨⟨⟨⟨⟨_, gks⟩, _⟩, glen⟩, _⟩, _⟩ := g1
      have gks : k = 17 ∨ ks = [] := gks
      have glen : k = 17 → ks.length = l.length := glen
      have hkl : ks.length ≤ l.length := by
        rcases gks with h | h
        · rw [glen h]; exact Nat.le_refl _
        · rw [h]; simp
      have hkm := Nat.mul_le_mul_right (m + 20) hkl
      rw [Tr.pre, Tr.cost, List.length_cons, Nat.add_mul, Nat.one_mul]
      omega
theorem costL_val (m : Nat) : ∀ (l : List Tr) (d : Nat), (∀ t ∈ l, Val t) → (∀ t ∈ l, Lim m t) → Tr.costL l + l.length * (m + 20) ≤ (Tr.pre.Tr.preL d l).length * (124 + 3 * m)
  | [], d, _, _ => by simp [Tr.costL, Tr.pre.Tr.preL]
  | t :: r, d, hv, hl => by
    have h1 := cost_val m t d (hv t (by simp)) (hl t (by simp))
    have h2 := costL_val m r d (fun x hx => hv x (by simp [hx])) (fun x hx => hl x (by simp [hx]))
    simp only [Tr.costL, Tr.pre.Tr.preL, List.length_append, List.length_cons, Nat.add_mul, Nat.one_mul]
    simp only [Nat.mul_add] at h1 h2 ⊢
    omega
end
theorem short_is (s : List UInt8) (m : Nat) (w : World) : Calls Tryz.prog 61 #[.string ⟨s.toArray⟩, .int .i64 m] w fun e w' => e = .returned (.string ⟨(s.take m).toArray⟩) ∧ w = w' := by
  have hs : (⟨s.toArray⟩ : ByteArray).size = s.length := rfl
  by_cases h : m < s.length
  · have hm0 : (m : Int) ≤ s.length := by omega
    have hd : decide (m < s.length) = true := decide_eq_true h
    have he : (⟨s.toArray⟩ : ByteArray).extract 0 m = ⟨(s.take m).toArray⟩ := by
      rw [ByteArray.extract_mk, List.drop_zero, Nat.sub_zero]
    have HE := Lib.hid he
    clear he
    go_enter Tryz.func61, Tryz.ntmps61
    go_wp2
    go_ret
    refine ⟨?_, rfl⟩
    show Ending.returned (.string (ByteArray.extract ⟨s.toArray⟩ 0 (min (s.length : Int) (m : Int)).toNat)) = _
    rw [show (min (s.length : Int) (m : Int)).toNat = m by omega, HE.out]
  · have hd : decide (m < s.length) = false := decide_eq_false h
    have he : s.take m = s := List.take_of_length_le (by omega)
    have HE := Lib.hid he
    clear he
    go_enter Tryz.func61, Tryz.ntmps61
    go_wp2
    go_ret
    refine ⟨?_, rfl⟩
    show Ending.returned (.string (ByteArray.extract ⟨s.toArray⟩ 0 (min (s.length : Int) (m : Int)).toNat)) = _
    rw [show (min (s.length : Int) (m : Int)).toNat = s.length by omega, HE.out, ByteArray.extract_mk]
    simp
/-- Strings, the caller's own. -/
def StrsW (w : World) (n : Nat) (l : List (List UInt8)) (e : Ending) (w' : World) : Prop := ∃ A c, e = .returned (.slice A n c) ∧ OwnS w' w.heap.size A n c l ∧ Below w.heap.size w w'
set_option maxHeartbeats 1000000 in
theorem texts_spec (A : Option Addr) (n c : Nat) (l : List (List UInt8)) (many long : Nat) (w : World) (h : IsS w A n l) (hm : many ≤ 1000) :
    Calls Tryz.prog 72 #[.slice A n c, .int .i64 (many : Int), .int .i64 (long : Int)] w (StrsW w (min n many) ((l.take many).map fun x => x.take long)) := by
  have HI := Lib.hid h
  have hl : l.length = n := by have := h.1; simpa using this
  have HL := Lib.hid hl
  have HSH := Lib.hid (fun (s : List UInt8) (w : World) => short_is s long w)
  clear h hl
  go_enter Tryz.func72, Tryz.ntmps72
  go_wp2_with fail
  go_loopw [7, 8] (fun s u wr => ∃ k : Nat, k ≤ n ∧ k ≤ many ∧ u = .int .i64 (k : Int) ∧ ∃ B d, s = .slice B k d ∧ OwnS wr w.heap.size B k d ((l.take k).map fun x => x.take long) ∧ Below w.heap.size w wr) (fun _ u _ => many - (intOf u).toNat)
  case atStart => exact ⟨0, Nat.zero_le _, Nat.zero_le _, rfl, none, 0, rfl, Own.nil _ _, Below.refl _ _⟩
  case round =>
    obtain ⟨k, hk, hkm, rfl, B, d, rfl, ho, hb⟩ := hrel
    have HO := Lib.hid ho
    have HB := Lib.hid hb
    have HIR := Lib.hid (HI.out.pure hb)
    clear ho hb
    by_cases h1 : k < n
    · by_cases h2 : k < many
      · obtain ⟨g, off, e, hk', hs⟩ := iss_at HIR.out h1
        have HT := Lib.hid (show (l.take (k + 1)).map (fun x => x.take long) = (l.take k).map (fun x => x.take long) ++ [l[k].take long] by
          rw [List.take_succ_eq_append_getElem hk', List.map_append]; rfl)
        generalize l[k] = y at hs HT
        have hk0 : (0 : Int) ≤ (k : Int) := by omega
        have hkn : (k : Int) < (n : Int) := by omega
        have hkM : (k : Int) < (many : Int) := by omega
        rw [e]
        have HE := Lib.hid e
        clear e hk'
        go_wp2_with fail
        go_at_call 61
        refine (HSH.out _ _).mono ?_
        rintro e w' ⟨rfl, rfl⟩
        have HO1 := Lib.hid (HO.out.pure ((Below.refl wr.heap.size wr).alloc (Nat.le_refl _) (.cells #[.string ⟨(y.take long).toArray⟩] 9)))
        have HB1 := Lib.hid (HB.out.alloc HB.out.size (.cells #[.string ⟨(y.take long).toArray⟩] 9))
        have HI1 := Lib.hid (str_lit wr (y.take long))
        go_wp2_with (at_builtin; refine wpl_app _ rfl (.tmp 20) (.tmp 27) _ rfl 9 _ 1 16 Tryz.underlying23 info_st rfl (by omega) stc_len stc_one _ _ _ _ _ rfl HO1.out _ _ _ _ rfl HI1.out (by omega) HB1.out.size ?_; intro A1 c1 w1 hown1 hfr1 hat1)
        have HO4 := Lib.hid hown1
        have HB4 := Lib.hid (below_fr HB1.out hfr1 (by rintro j ⟨ad, e, rfl⟩; exact (HO1.out.addr ad e).2.1))
        clear hown1 hfr1 hat1 hs
        go_wp2_with fail
        go_roundw
        case rel => exact ⟨k + 1, by omega, by omega, by go_num, A1, c1, rfl, by rw [HT.out]; exact HO4.out, HB4.out⟩
        case measure => simp [intOf]; omega
      · obtain rfl : many = k := by omega
        have hkn : (many : Int) < (n : Int) := by omega
        have hmin : min n many = many := by omega
        have HM := Lib.hid hmin
        clear hmin
        go_wp2_with fail
        go_ret
        rw [HM.out]
        exact ⟨B, d, rfl, HO.out, HB.out⟩
    · obtain rfl : n = k := by omega
      have hmin : min n many = n := by omega
      have ht : l.take many = l.take n := by rw [List.take_of_length_le (by have := HL.out; omega), List.take_of_length_le (by have := HL.out; omega)]
      have HM := Lib.hid (And.intro hmin ht)
      clear hmin ht
      go_wp2_with fail
      go_ret
      rw [HM.out.1, HM.out.2]
      exact ⟨B, d, rfl, HO.out, HB.out⟩
end Go.Proofs.YtfoifdoaleaekaaGreat
