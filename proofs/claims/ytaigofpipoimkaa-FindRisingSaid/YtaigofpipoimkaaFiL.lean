/-
  Package find: what the search by halves finds, in plain terms.
-/
import Derived.Test.YtaigofpipoimkaaFiG
namespace Go.Proofs.Ytaigofpipoimkaa
open Go.RowKit Go.Acc
theorem bl_irrefl (x : List UInt8) : Op.bytesLess x x = false := by
  induction x with
  | nil => rfl
  | cons a x ih =>
    show (decide (a < a) || (a == a && Op.bytesLess x x)) = false
    rw [ih, decide_eq_false (UInt8.lt_irrefl a)]
    simp
theorem bl_trans : ∀ (x y z : List UInt8), Op.bytesLess x y = true → Op.bytesLess y z = true → Op.bytesLess x z = true
  | [], [], _, h, _ => by cases h
  | [], _ :: _, [], _, h => by cases h
  | [], _ :: _, _ :: _, _, _ => rfl
  | _ :: _, [], _, h, _ => by cases h
  | _ :: _, _ :: _, [], _, h => by cases h
  | a :: x, b :: y, c :: z, h1, h2 => by
    have g1 : (decide (a < b) || (a == b && Op.bytesLess x y)) = true := h1
    have g2 : (decide (b < c) || (b == c && Op.bytesLess y z)) = true := h2
    show (decide (a < c) || (a == c && Op.bytesLess x z)) = true
    rw [Bool.or_eq_true, Bool.and_eq_true, decide_eq_true_eq, beq_iff_eq] at g1 g2 ⊢
    rcases g1 with k1 | ⟨e1, k1⟩
    · rcases g2 with k2 | ⟨e2, k2⟩
      · exact .inl (UInt8.lt_trans k1 k2)
      · exact .inl (by rw [← e2]; exact k1)
    · rcases g2 with k2 | ⟨e2, k2⟩
      · exact .inl (by rw [e1]; exact k2)
      · exact .inr ⟨e1.trans e2, bl_trans x y z k1 k2⟩
theorem bsr_find {f : Nat → Int × Bool} {N i0 : Nat} (hf : ∀ j, j < N → (f j).1 = 0 ∧ (f j).2 = decide (j < i0)) : ∀ fuel lo hi, lo ≤ i0 → i0 ≤ hi → hi ≤ N → hi - lo ≤ fuel → bsr f fuel lo hi = (0, i0) := by
  intro fuel
  induction fuel with
  | zero =>
    intro lo hi h1 h2 _ h4
    obtain rfl : lo = i0 := by omega
    rfl
  | succ fuel ih =>
    intro lo hi h1 h2 h3 h4
    by_cases hz : lo = hi
    · subst hz
      obtain rfl : lo = i0 := by omega
      rw [bsr_end]
    · have hm : lo + (hi - lo) / 2 < N := by omega
      obtain ⟨e1, e2⟩ := hf _ hm
      by_cases hl : lo + (hi - lo) / 2 < i0
      · rw [bsr_up (by omega) h4 rfl e1 (by rw [e2]; exact decide_eq_true hl)]
        exact ih _ _ (by omega) h2 h3 (by omega)
      · rw [bsr_down (by omega) h4 rfl e1 (by rw [e2]; exact decide_eq_false hl)]
        exact ih _ _ h1 (by omega) (by omega) (by omega)
theorem bsr_le {f : Nat → Int × Bool} : ∀ fuel lo hi, lo ≤ hi → hi - lo ≤ fuel → (bsr f fuel lo hi).1 = 0 → (bsr f fuel lo hi).2 ≤ hi := by
  intro fuel
  induction fuel with
  | zero =>
    intro lo hi h1 h2 _
    exact h1
  | succ fuel ih =>
    intro lo hi h1 h2 h3
    by_cases hz : lo = hi
    · subst hz
      rw [bsr_end]
      exact Nat.le_refl _
    · by_cases he : (f (lo + (hi - lo) / 2)).1 = 0
      · cases hl : (f (lo + (hi - lo) / 2)).2 with
        | true =>
          rw [bsr_up (by omega) h2 rfl he hl] at h3 ⊢
          exact ih _ _ (by omega) (by omega) h3
        | false =>
          rw [bsr_down (by omega) h2 rfl he hl] at h3 ⊢
          have := ih lo (lo + (hi - lo) / 2) (by omega) (by omega) h3
          show (bsr f fuel lo (lo + (hi - lo) / 2)).2 ≤ hi
          omega
      · rw [bsr_err (by omega) h2 rfl he] at h3
        exact absurd h3 he
/-- No error at any of the first n keys, and each before the next. -/
def AscK (l : List UInt8) (p q t v : Int) (n : Nat) : Prop := ∀ j : Nat, j < n → kaE l p q t v j = 0 ∧ (0 < j → Op.bytesLess (kaS l p q t v ((j - 1 : Nat) : Int)) (kaS l p q t v j) = true)
theorem asc_lt {l : List UInt8} {p q t v : Int} {n : Nat} (h : AscK l p q t v n) : ∀ b a : Nat, a < b → b < n → Op.bytesLess (kaS l p q t v a) (kaS l p q t v b) = true := by
  intro b
  induction b with
  | zero => intro a h; omega
  | succ b ih =>
    intro a h1 h2
    have hs := (h (b + 1) h2).2 (by omega)
    rw [Nat.add_sub_cancel] at hs
    by_cases e : a = b
    · subst e; exact hs
    · exact bl_trans _ _ _ (ih a (by omega) (by omega)) hs
theorem op_len {l : List UInt8} {p q t v : Int} (h : opE l p q t v = 0) : opN l p q t v = lsLen l p q t v := by
  rcases op_cases l p q t v with ⟨h1, e⟩ | ⟨_, ⟨h1, e⟩ | ⟨_, ⟨_, e⟩ | ⟨e, _⟩⟩⟩
  · rw [e] at h; exact absurd h h1
  · rw [e] at h; exact absurd h h1
  · rw [e] at h; cases h
  · exact e.symm
theorem ka_rk {l : List UInt8} {p q t v : Int} (h : opE l p q t v = 0) (i : Int) : kaE l p q t v i = rkE l (kyP l p q t v) (kyQ l p q t v) (kyT l p q t v) (kyV l p q t v) i ∧ kaS l p q t v i = rkS l (kyP l p q t v) (kyQ l p q t v) (kyT l p q t v) (kyV l p q t v) i := by
  unfold kaE kaS
  rw [h]
  exact ⟨rfl, rfl⟩
theorem ka_op {l : List UInt8} {p q t v i : Int} (h : kaE l p q t v i = 0) : opE l p q t v = 0 := by
  unfold kaE at h
  by_cases e : opE l p q t v = 0
  · exact e
  · rw [if_pos e] at h; exact absurd h e
theorem asc_find {l : List UInt8} {p q t v : Int} {n i : Nat} (hn : lsLen l p q t v = n) (h : AscK l p q t v n) (hi : i < n) (he : atE l p q t v i = 0) :
    fdP l (kaS l p q t v i) p q t v = atP l p q t v i ∧ fdQ l (kaS l p q t v i) p q t v = atQ l p q t v i ∧ fdT l (kaS l p q t v i) p q t v = atT l p q t v i ∧ fdV l (kaS l p q t v i) p q t v = atV l p q t v i ∧ fdB l (kaS l p q t v i) p q t v = true ∧ fdE l (kaS l p q t v i) p q t v = 0 := by
  have ho := ka_op (h i hi).1
  have hN : opN l p q t v = n := (op_len ho).trans hn
  have hX : fdX l (kaS l p q t v i) p q t v = (0, i) := by
    unfold fdX
    rw [hN]
    refine bsr_find (N := n) (fun j hj => ?_) n 0 n (by omega) (by omega) (Nat.le_refl _) (by omega)
    refine ⟨?_, ?_⟩
    · show rkE l (kyP l p q t v) (kyQ l p q t v) (kyT l p q t v) (kyV l p q t v) j = 0
      rw [← (ka_rk ho j).1]
      exact (h j hj).1
    · show Op.bytesLess (rkS l (kyP l p q t v) (kyQ l p q t v) (kyT l p q t v) (kyV l p q t v) j) (kaS l p q t v i) = decide (j < i)
      rw [← (ka_rk ho j).2]
      by_cases e : j < i
      · rw [decide_eq_true e]; exact asc_lt h i j e hi
      · rw [decide_eq_false e]
        by_cases e2 : j = i
        · subst e2; exact bl_irrefl _
        · have hlt := asc_lt h j i (by omega) hj
          cases hb : Op.bytesLess (kaS l p q t v j) (kaS l p q t v i) with
          | false => rfl
          | true =>
            have := bl_trans _ _ _ hlt hb
            rw [bl_irrefl] at this
            cases this
  have hg : fdGo l (kaS l p q t v i) p q t v = true := by
    refine decide_eq_true ⟨ho, by rw [hX], by rw [hX, hN]; show i ≠ n; omega, ?_, ?_⟩
    · rw [hX]
      show rkE l (kyP l p q t v) (kyQ l p q t v) (kyT l p q t v) (kyV l p q t v) i = 0
      rw [← (ka_rk ho i).1]
      exact (h i hi).1
    · rw [hX]
      exact (ka_rk ho i).2.symm
  unfold fdP fdQ fdT fdV fdB fdE
  rw [hg, hX]
  simp [he]
theorem found_at {l k : List UInt8} {p q t v : Int} (h : fdB l k p q t v = true) : ∃ i : Nat, i < lsLen l p q t v ∧ kaE l p q t v i = 0 ∧ kaS l p q t v i = k ∧ atE l p q t v i = 0 ∧
    fdP l k p q t v = atP l p q t v i ∧ fdQ l k p q t v = atQ l p q t v i ∧ fdT l k p q t v = atT l p q t v i ∧ fdV l k p q t v = atV l p q t v i := by
  unfold fdB at h
  rw [Bool.and_eq_true, beq_iff_eq] at h
  obtain ⟨hg, he⟩ := h
  obtain ⟨g1, g2, g3, g4, g5⟩ := of_decide_eq_true hg
  have hle := bsr_le (f := fiF l k (kyP l p q t v) (kyQ l p q t v) (kyT l p q t v) (kyV l p q t v)) (opN l p q t v) 0 (opN l p q t v) (Nat.zero_le _) (by omega) g2
  have hle : (fdX l k p q t v).2 ≤ opN l p q t v := hle
  refine ⟨(fdX l k p q t v).2, by rw [← op_len g1]; omega, by rw [(ka_rk g1 _).1]; exact g4, by rw [(ka_rk g1 _).2]; exact g5, he, ?_⟩
  unfold fdP fdQ fdT fdV
  rw [hg]
  simp
theorem fd_none {l k : List UInt8} {p q t v : Int} (h : lsE l p q t v ≠ 0) : fdB l k p q t v = false ∧ fdE l k p q t v ≠ 0 := by
  have hk : kyE l p q t v ≠ 0 := by
    rcases ky_cases l p q t v with ⟨h1, e⟩ | ⟨_, ⟨_, e⟩ | ⟨_, ⟨h1, e⟩ | ⟨h1, _⟩⟩⟩
    · rw [e]; exact h1
    · rw [e]; decide
    · rw [e]; exact h1
    · exact absurd h1 h
  have ho : opE l p q t v ≠ 0 := by
    rcases op_cases l p q t v with ⟨_, e⟩ | ⟨h1, _⟩
    · rw [e]; exact hk
    · exact absurd h1 hk
  rcases fd_cases l k p q t v with ⟨_, hg, e⟩ | ⟨h1, _⟩
  · refine ⟨?_, by rw [e]; exact ho⟩
    unfold fdB
    rw [hg]
    rfl
  · exact absurd h1 ho
end Go.Proofs.Ytaigofpipoimkaa
