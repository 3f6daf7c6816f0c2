/-
  Package find: what the search by halves finds, in plain terms.
  Package find, plain: a map in a built document, as the readers of find see it. No program in sight.
  Package build: a map is written, once its keys' vector is known.
-/
import Derived.Test.YtfoifdoaleaekaaGreatQf37
namespace Go.Proofs.YtfoifdoaleaekaaGreat
open Go.RowKit Go.Acc
theorem bl_irrefl (x : List UInt8) : Op.bytesLess x x = false := by
  induction x with
  | nil => rfl
  | cons a x ih =>
    show (decide (a < a) || (a == a && Op.bytesLess x x)) = false
    rw [ih, decide_eq_false (UInt8.lt_irrefl a)]
    simp
theorem bl_trans : ∀ (x y z : List UInt8), Op.bytesLess x y = true → Op.bytesLess y z = true → Op.bytesLess x z = true
  | [], [], _, h, _ => by cases h
  | [], _ :: _, [], _, h => by cases h
  | [], _ :: _, _ :: _, _, _ => rfl
  | _ :: _, [], _, h, _ => by cases h
  | _ :: _, _ :: _, [], _, h => by cases h
  | a :: x, b :: y, c :: z, h1, h2 => by
    have g1 : (decide (a < b) || (a == b && Op.bytesLess x y)) = true := h1
    have g2 : (decide (b < c) || (b == c && Op.bytesLess y z)) = true := h2
    show (decide (a < c) || (a == c && Op.bytesLess x z)) = true
    rw [Bool.or_eq_true, Bool.and_eq_true, decide_eq_true_eq, beq_iff_eq] at g1 g2 ⊢
    rcases g1 with k1 | ⟨e1, k1⟩
    · rcases g2 with k2 | ⟨e2, k2⟩
      · exact .inl (UInt8.lt_trans k1 k2)
      · exact .inl (by rw [← e2]; exact k1)
    · rcases g2 with k2 | ⟨e2, k2⟩
      · exact .inl (by rw [e1]; exact k2)
      · exact .inr ⟨e1.trans e2, bl_trans x y z k1 k2⟩
theorem bsr_find {f : Nat → Int × Bool} {N i0 : Nat} (hf : ∀ j, j < N → (f j).1 = 0 ∧ (f j).2 = decide (j < i0)) : ∀ fuel lo hi, lo ≤ i0 → i0 ≤ hi → hi ≤ N → hi - lo ≤ fuel → bsr f fuel lo hi = (0, i0) := by
  intro fuel
  induction fuel with
  | zero =>
    intro lo hi h1 h2 _ h4
    obtain rfl : lo = i0 := by omega
    rfl
  | succ fuel ih =>
    intro lo hi h1 h2 h3 h4
    by_cases hz : lo = hi
    · subst hz
      obtain rfl : lo = i0 := by omega
      rw [bsr_end]
    · have hm : lo + (hi - lo) / 2 < N := by omega
      obtain ⟨e1, e2⟩ := hf _ hm
      by_cases hl : lo + (hi - lo) / 2 < i0
      · rw [bsr_up (by omega) h4 rfl e1 (by rw [e2]; exact decide_eq_true hl)]
        exact ih _ _ (by omega) h2 h3 (by omega)
      · rw [bsr_down (by omega) h4 rfl e1 (by rw [e2]; exact decide_eq_false hl)]
        exact ih _ _ h1 (by omega) (by omega) (by omega)
theorem bsr_le {f : Nat → Int × Bool} : ∀ fuel lo hi, lo ≤ hi → hi - lo ≤ fuel → (bsr f fuel lo hi).1 = 0 → (bsr f fuel lo hi).2 ≤ hi := by
  intro fuel
  induction fuel with
  | zero =>
    intro lo hi h1 h2 _
    exact h1
  | succ fuel ih =>
    intro lo hi h1 h2 h3
    by_cases hz : lo = hi
    · subst hz
      rw [bsr_end]
      exact Nat.le_refl _
    · by_cases he : (f (lo + (hi - lo) / 2)).1 = 0
      · cases hl : (f (lo + (hi - lo) / 2)).2 with
        | true =>
          rw [bsr_up (by omega) h2 rfl he hl] at h3 ⊢
          exact ih _ _ (by omega) (by omega) h3
        | false =>
          rw [bsr_down (by omega) h2 rfl he hl] at h3 ⊢
          have := ih lo (lo + (hi - lo) / 2) (by omega) (by omega) h3
          show (bsr f fuel lo (lo + (hi - lo) / 2)).2 ≤ hi
          omega
      · rw [bsr_err (by omega) h2 rfl he] at h3
        exact absurd h3 he
def AscK (l : List UInt8) (p q t v : Int) (n : Nat) : Prop := ∀ j : Nat, j < n → kaE l p q t v j = 0 ∧ (0 < j → Op.bytesLess (kaS l p q t v ((j - 1 : Nat) : Int)) (kaS l p q t v j) = true)
theorem asc_lt {l : List UInt8} {p q t v : Int} {n : Nat} (h : AscK l p q t v n) : ∀ b a : Nat, a < b → b < n → Op.bytesLess (kaS l p q t v a) (kaS l p q t v b) = true := by
  intro b
  induction b with
  | zero => intro a h; omega
  | succ b ih =>
    intro a h1 h2
    have hs := (h (b + 1) h2).2 (by omega)
    rw [Nat.add_sub_cancel] at hs
    by_cases e : a = b
    · subst e; exact hs
    · exact bl_trans _ _ _ (ih a (by omega) (by omega)) hs
theorem op_len {l : List UInt8} {p q t v : Int} (h : opE l p q t v = 0) : opN l p q t v = lsLen l p q t v := by
  rcases op_cases l p q t v with ⟨h1, e⟩ | ⟨_, ⟨h1, e⟩ | ⟨_, ⟨_, e⟩ | ⟨e, _⟩⟩⟩
  · rw [e] at h; exact absurd h h1
  · rw [e] at h; exact absurd h h1
  · rw [e] at h; cases h
  · exact e.symm
theorem ka_rk {l : List UInt8} {p q t v : Int} (h : opE l p q t v = 0) (i : Int) : kaE l p q t v i = rkE l (kyP l p q t v) (kyQ l p q t v) (kyT l p q t v) (kyV l p q t v) i ∧ kaS l p q t v i = rkS l (kyP l p q t v) (kyQ l p q t v) (kyT l p q t v) (kyV l p q t v) i := by
  unfold kaE kaS
  rw [h]
  exact ⟨rfl, rfl⟩
theorem ka_op {l : List UInt8} {p q t v i : Int} (h : kaE l p q t v i = 0) : opE l p q t v = 0 := by
  unfold kaE at h
  by_cases e : opE l p q t v = 0
  · exact e
  · rw [if_pos e] at h; exact absurd h e
theorem asc_find {l : List UInt8} {p q t v : Int} {n i : Nat} (hn : lsLen l p q t v = n) (h : AscK l p q t v n) (hi : i < n) (he : atE l p q t v i = 0) :
    fdP l (kaS l p q t v i) p q t v = atP l p q t v i ∧ fdQ l (kaS l p q t v i) p q t v = atQ l p q t v i ∧ fdT l (kaS l p q t v i) p q t v = atT l p q t v i ∧ fdV l (kaS l p q t v i) p q t v = atV l p q t v i ∧ fdB l (kaS l p q t v i) p q t v = true ∧ fdE l (kaS l p q t v i) p q t v = 0 := by
  have ho := ka_op (h i hi).1
  have hN : opN l p q t v = n := (op_len ho).trans hn
  have hX : fdX l (kaS l p q t v i) p q t v = (0, i) := by
    unfold fdX
    rw [hN]
    refine bsr_find (N := n) (fun j hj => ?_) n 0 n (by omega) (by omega) (Nat.le_refl _) (by omega)
    refine ⟨?_, ?_⟩
    · show rkE l (kyP l p q t v) (kyQ l p q t v) (kyT l p q t v) (kyV l p q t v) j = 0
      rw [← (ka_rk ho j).1]
      exact (h j hj).1
    · show Op.bytesLess (rkS l (kyP l p q t v) (kyQ l p q t v) (kyT l p q t v) (kyV l p q t v) j) (kaS l p q t v i) = decide (j < i)
      rw [← (ka_rk ho j).2]
      by_cases e : j < i
      · rw [decide_eq_true e]; exact asc_lt h i j e hi
      · rw [decide_eq_false e]
        by_cases e2 : j = i
        · subst e2; exact bl_irrefl _
        · have hlt := asc_lt h j i (by omega) hj
          cases hb : Op.bytesLess (kaS l p q t v j) (kaS l p q t v i) with
          | false => rfl
          | true =>
            have := bl_trans _ _ _ hlt hb
            rw [bl_irrefl] at this
            cases this
  have hg : fdGo l (kaS l p q t v i) p q t v = true := by
    refine decide_eq_true ⟨ho, by rw [hX], by rw [hX, hN]; show i ≠ n; omega, ?_, ?_⟩
    · rw [hX]
      show rkE l (kyP l p q t v) (kyQ l p q t v) (kyT l p q t v) (kyV l p q t v) i = 0
      rw [← (ka_rk ho i).1]
      exact (h i hi).1
    · rw [hX]
      exact (ka_rk ho i).2.symm
  unfold fdP fdQ fdT fdV fdB fdE
  rw [hg, hX]
  simp [he]
theorem found_at {l k : List UInt8} {p q t v : Int} (h : fdB l k p q t v = true) : ∃ i : Nat, i < lsLen l p q t v ∧ kaE l p q t v i = 0 ∧ kaS l p q t v i = k ∧ atE l p q t v i = 0 ∧
    fdP l k p q t v = atP l p q t v i ∧ fdQ l k p q t v = atQ l p q t v i ∧ fdT l k p q t v = atT l p q t v i ∧ fdV l k p q t v = atV l p q t v i := by
  unfold fdB at h
  rw [Bool.and_eq_true, beq_iff_eq] at h
  obtain ⟨hg, he⟩ := h
  obtain ⟨g1, g2, g3, g4, g5⟩ := of_decide_eq_true hg
  have hle := bsr_le (f := fiF l k (kyP l p q t v) (kyQ l p q t v) (kyT l p q t v) (kyV l p q t v)) (opN l p q t v) 0 (opN l p q t v) (Nat.zero_le _) (by omega) g2
  have hle : (fdX l k p q t v).2 ≤ opN l p q t v := hle
  refine ⟨(fdX l k p q t v).2, by rw [← op_len g1]; omega, by rw [(ka_rk g1 _).1]; exact g4, by rw [(ka_rk g1 _).2]; exact g5, he, ?_⟩
  unfold fdP fdQ fdT fdV
  rw [hg]
  simp
end Go.Proofs.YtfoifdoaleaekaaGreat

namespace Go.Proofs.YtfoifdoaleaekaaGreat
open Go.RowKit Go.Acc
theorem bl_of_lt : ∀ {a b : List UInt8}, a < b → Op.bytesLess a b = true
  | [], [], h => absurd h (List.lt_irrefl _)
  | [], _ :: _, _ => rfl
  | _ :: _, [], h => by cases h
  | x :: a, y :: b, h => by
    rcases List.cons_lt_cons_iff.1 h with h1 | ⟨rfl, h2⟩
    · unfold Op.bytesLess
      simp [h1]
    · have := bl_of_lt h2
      unfold Op.bytesLess
      simp [this]
structure MapD (L : List UInt8) (p q t v : Int) (ks : List (List UInt8)) (ns : List Int) : Prop where
  len : lsE L p q t v = 0 ∧ lsLen L p q t v = ks.length
  nl : ns.length = ks.length
  op : opE L p q t v = 0
  key : ∀ (i : Nat) k, ks[i]? = some k → kaE L p q t v (i : Int) = 0 ∧ kaS L p q t v (i : Int) = k
  el : ∀ (i : Nat) n, ns[i]? = some n → atE L p q t v (i : Int) = 0 ∧ intV L (atP L p q t v i) (atQ L p q t v i) (atT L p q t v i) (atV L p q t v i) = n ∧ intE L (atP L p q t v i) (atQ L p q t v i) (atT L p q t v i) (atV L p q t v i) = 0
theorem map_doc {L : List UInt8} {v kv : Bv} {ks : List (List UInt8)} {kvs : List Bv} {ns : List Int} {p q : Int} (hm : MapAt L kv (ns.map numV) v) (hkv : VecAt L 14 true false kvs kv) (hk : KeysAt L ks kvs) (h0 : ∀ s ∈ ks, (0 : UInt8) ∉ s) (hl : ns.length = ks.length) (hn : ∀ n ∈ ns, -9223372036854775808 ≤ n ∧ n ≤ 9223372036854775807)
    (hb : L.length < 2 ^ 32) (hld : Leads L 0 v p q) : MapD L p q (v.t : Int) (v.w : Int) ks ns := by
  obtain ⟨ht, hw⟩ := hm.width
  obtain ⟨hkt, hkw⟩ := hkv.width
  have hki : inl kv.t = false := by rw [hkt]; decide
  have hL := map_list hm hki hb [] rfl
  have hK := vec_list hkv hb [] rfl (.inr ⟨.inr (.inr (.inl rfl)), rfl⟩)
  have hM := hm.facts hki hb []
  simp only [List.nil_append, List.length_nil] at hL hK hM
  obtain ⟨e1, e2, e3⟩ := lst_len hL hld
  obtain ⟨c, hc, g1, g2, g3, g4, _, _⟩ := hM.head
  rw [Nat.zero_add] at g1 g4 e3
  have ha : aheadT (v.t : Int) = 3 := by rw [ht]; decide
  have hF : lsFrom L p q (v.t : Int) (v.w : Int) = c := by
    unfold lsFrom
    rw [if_pos e1, hld.tg, ha]
    omega
  have hU : kyU L p q (v.t : Int) (v.w : Int) = kv.w := by
    unfold kyU
    rw [hF]
    have e : ((c : Int) + (v.w : Int)) = ((c + v.w : Nat) : Int) := by omega
    rw [e]
    refine load_len hw g4 ?_
    have h8 : kv.w ≤ 8 := by rcases isW_nat.1 hkw with h | h | h | h <;> omega
    rcases isW_nat.1 hw with h | h | h | h <;> rw [h] <;> omega
  have hkE : kyE L p q (v.t : Int) (v.w : Int) = 0 := by
    unfold kyE
    rw [hld.may, if_neg (by decide), if_neg (by rw [ht]; decide), e1, if_neg (by decide), hU, if_neg (by rw [hkw]; decide)]
  have hkP : kyP L p q (v.t : Int) (v.w : Int) = (c : Int) := by unfold kyP; rw [if_pos hkE, hF]
  have hkQ : kyQ L p q (v.t : Int) (v.w : Int) = (v.w : Int) := by unfold kyQ; rw [if_pos hkE]
  have hkT : kyT L p q (v.t : Int) (v.w : Int) = (kv.t : Int) := by unfold kyT; rw [if_pos hkE, hkt]; rfl
  have hkV : kyV L p q (v.t : Int) (v.w : Int) = (kv.w : Int) := by unfold kyV; rw [if_pos hkE, hU]
  have hml : mayE L.length (c : Int) (v.w : Int) (kv.t : Int) (kv.w : Int) = 0 := by
    have hle := g1.le
    rw [leBytes_length] at hle
    exact mayE_ok.2 ⟨formed_iff.2 ⟨by rw [hkt]; decide, hw, hkw⟩, inB_iff.2 ⟨by omega, by omega, by omega⟩⟩
  have hlo : loadU L (c : Int) (v.w : Int) = c - kv.n := load_len hw g1 g3
  have hnl : ¬ (c : Int) < (loadU L (c : Int) (v.w : Int) : Int) := by rw [hlo]; omega
  have hKL : Leads L 0 kv (c : Int) (v.w : Int) := ⟨hml, tgtE_ok hml (by rw [hkt]; decide) hnl, by rw [tgt_ok hml (by rw [hkt]; decide) hnl, hlo]; omega⟩
  obtain ⟨f1, f2, f3⟩ := lst_len hK hKL
  have hkl : kvs.length = ks.length := hk.1
  have hop : opE L p q (v.t : Int) (v.w : Int) = 0 := by
    unfold opE
    rw [if_neg (by rw [hkE]; decide), hkP, hkQ, hkT, hkV, if_neg (by rw [f1]; decide), if_neg]
    rw [f2, e2, List.length_map, hl, hkl]
    simp
  refine ⟨⟨e1, by rw [e2, List.length_map, hl]⟩, hl, hop, fun i k hi => ?_, fun i n hi => ?_⟩
  · have hil : i < kvs.length := by rw [hkl]; exact (List.getElem?_eq_some_iff.1 hi).1
    have hy : kvs[i]? = some kvs[i] := List.getElem?_eq_getElem hil
    obtain ⟨k1, k2, k3⟩ := hk.2 i k kvs[i] hi hy
    generalize kvs[i] = y at hy k1 k2 k3
    have htag : tagT (kv.t : Int) = false := by rw [hkt]; decide
    obtain ⟨a1, a2, a3, a4, a5⟩ := lst_at hK hKL hy (fun h => by rw [htag] at h; cases h)
    rw [if_neg (by rw [htag]; decide)] at a4 a5
    obtain ⟨b1, b2⟩ := hK.el i y hy
    rw [Nat.zero_add] at a2 b1
    have hyi : inl y.t = false := by rw [k1]; decide
    obtain ⟨b3, b4⟩ := b2.2 hyi
    have hle := b1.le
    rw [leBytes_length] at hle
    have he4 : elemT (kv.t : Int) = 4 := by rw [hkt]; decide
    have hm4 : mayE L.length ((kv.n + i * kv.w : Nat) : Int) (kv.w : Int) 4 (kv.w : Int) = 0 := mayE_ok.2 ⟨formed_iff.2 ⟨by decide, hkw, hkw⟩, inB_iff.2 ⟨by omega, by omega, by omega⟩⟩
    have hlo4 : loadU L ((kv.n + i * kv.w : Nat) : Int) (kv.w : Int) = kv.n + i * kv.w - y.n := by
      have en : elemN kv.w (kv.n + i * kv.w) y = kv.n + i * kv.w - y.n := by unfold elemN; rw [if_neg (by rw [hyi]; decide)]
      rw [en] at b1
      exact load_len hkw b1 b4
    have hnl4 : ¬ ((kv.n + i * kv.w : Nat) : Int) < (loadU L ((kv.n + i * kv.w : Nat) : Int) (kv.w : Int) : Int) := by rw [hlo4]; omega
    have t1 := tgtE_ok hm4 (by decide) hnl4
    have t2 : (tgt L ((kv.n + i * kv.w : Nat) : Int) (kv.w : Int) 4 (kv.w : Int)).toNat = y.n := by
      rw [tgt_ok hm4 (by decide) hnl4, hlo4]
      omega
    obtain ⟨q1, q2⟩ := keyL_at k3 (h0 k (List.mem_of_getElem? hi))
    have hfE : fndE L ((kv.n + i * kv.w : Nat) : Int) (kv.w : Int) 4 (kv.w : Int) [4] = 0 := by
      unfold fndE
      rw [if_neg (by rw [hm4]; decide), if_neg (by decide), if_neg (by rw [t1]; decide), if_pos rfl, t2]
      exact q1
    have hfL : fndL L ((kv.n + i * kv.w : Nat) : Int) (kv.w : Int) 4 (kv.w : Int) [4] = k := by
      unfold fndL
      rw [if_pos hfE, if_pos rfl, t2]
      exact q2
    refine ⟨?_, ?_⟩
    · unfold kaE
      rw [if_neg (by rw [hop]; decide), hkP, hkQ, hkT, hkV]
      unfold rkE
      rw [if_neg (by rw [a1]; decide), a2, a3, a4, a5, he4]
      exact hfE
    · unfold kaS
      rw [if_neg (by rw [hop]; decide), hkP, hkQ, hkT, hkV]
      unfold rkS
      rw [if_neg (by rw [a1]; decide), a2, a3, a4, a5, he4]
      exact hfL
  · obtain ⟨a1, a2, a3, a4, a5, a6, a7⟩ := inl_elem (T := 1) hL hld (by rw [List.getElem?_map, hi]; rfl) rfl (by decide) (by decide) (bWidthI_is n) (fun h => by rw [ht] at h; exact absurd h (by decide))
    refine ⟨a1, ?_⟩
    rw [a2, a3, a4]
    exact elt_int hL.w a7 (hn n (List.mem_of_getElem? hi)) a6 a5
theorem MapD.asc {L : List UInt8} {p q t v : Int} {ks : List (List UInt8)} {ns : List Int} (h : MapD L p q t v ks ns) (hs : ks.Pairwise (· < ·)) : AscK L p q t v ks.length := by
  intro j hj
  obtain ⟨k1, k2⟩ := h.key j ks[j] (List.getElem?_eq_getElem hj)
  refine ⟨k1, fun h0 => ?_⟩
  obtain ⟨_, k3⟩ := h.key (j - 1) ks[j - 1] (List.getElem?_eq_getElem (by omega))
  rw [k2, k3]
  rw [List.pairwise_iff_getElem] at hs
  exact bl_of_lt (hs (j - 1) j (by omega) hj (by omega))
theorem MapD.yes {L : List UInt8} {p q t v : Int} {ks : List (List UInt8)} {ns : List Int} (h : MapD L p q t v ks ns) (hs : ks.Pairwise (· < ·)) {i : Nat} {k : List UInt8} {n : Int} (hk : ks[i]? = some k) (hn : ns[i]? = some n) :
    fdB L k p q t v = true ∧ fdE L k p q t v = 0 ∧ (fdP L k p q t v = atP L p q t v i ∧ fdQ L k p q t v = atQ L p q t v i ∧ fdT L k p q t v = atT L p q t v i ∧ fdV L k p q t v = atV L p q t v i) ∧
      intV L (fdP L k p q t v) (fdQ L k p q t v) (fdT L k p q t v) (fdV L k p q t v) = n ∧ intE L (fdP L k p q t v) (fdQ L k p q t v) (fdT L k p q t v) (fdV L k p q t v) = 0 := by
  have hi := (List.getElem?_eq_some_iff.1 hk).1
  obtain ⟨a1, a2, a3⟩ := h.el i n hn
  obtain ⟨b1, b2, b3, b4, b5, b6⟩ := asc_find h.len.2 (h.asc hs) hi a1
  rw [(h.key i k hk).2] at b1 b2 b3 b4 b5 b6
  refine ⟨b5, b6, ⟨b1, b2, b3, b4⟩, ?_⟩
  rw [b1, b2, b3, b4]
  exact ⟨a2, a3⟩
theorem cut_at (k : List UInt8) : ∀ (ks : List (List UInt8)), ks.Pairwise (· < ·) → ∃ i0, i0 ≤ ks.length ∧ ∀ j (hj : j < ks.length), Op.bytesLess ks[j] k = decide (j < i0)
  | [], _ => ⟨0, Nat.le_refl _, fun j hj => by simp at hj⟩
  | x :: r, h => by
    obtain ⟨h1, h2⟩ := List.pairwise_cons.1 h
    cases hx : Op.bytesLess x k with
    | true =>
      obtain ⟨i0, hi, hp⟩ := cut_at k r h2
      refine ⟨i0 + 1, by simp; omega, fun j hj => ?_⟩
      cases j with
      | zero => simpa using hx
      | succ j =>
        have := hp j (by simpa using hj)
        rw [List.getElem_cons_succ, this]
        exact decide_eq_decide.2 ⟨fun h => by omega, fun h => by omega⟩
    | false =>
      refine ⟨0, Nat.zero_le _, fun j hj => ?_⟩
      cases j with
      | zero => simpa using hx
      | succ j =>
        rw [List.getElem_cons_succ]
        have hj' : j < r.length := by simpa using hj
        cases hb : Op.bytesLess r[j] k with
        | false => simp
        | true =>
          have := bl_trans _ _ _ (bl_of_lt (h1 r[j] (List.getElem_mem _))) hb
          rw [hx] at this
          cases this
theorem MapD.no {L : List UInt8} {p q t v : Int} {ks : List (List UInt8)} {ns : List Int} (h : MapD L p q t v ks ns) (hs : ks.Pairwise (· < ·)) {k : List UInt8} (hk : k ∉ ks) :
    fdB L k p q t v = false ∧ fdE L k p q t v = 0 ∧ fdP L k p q t v = 0 ∧ fdQ L k p q t v = 0 ∧ fdT L k p q t v = 0 ∧ fdV L k p q t v = 0 := by
  have hB : fdB L k p q t v = false := by
    cases hb : fdB L k p q t v with
    | false => rfl
    | true =>
      obtain ⟨i, h1, _, h3, _⟩ := found_at hb
      rw [h.len.2] at h1
      rw [(h.key i ks[i] (List.getElem?_eq_getElem h1)).2] at h3
      exact absurd (h3 ▸ List.getElem_mem h1) hk
  obtain ⟨i0, hi0, hcut⟩ := cut_at k ks hs
  have hN : opN L p q t v = ks.length := (op_len h.op).trans h.len.2
  have hX : fdX L k p q t v = (0, i0) := by
    unfold fdX
    rw [hN]
    refine bsr_find (N := ks.length) (fun j hj => ?_) ks.length 0 ks.length (Nat.zero_le _) hi0 (Nat.le_refl _) (by omega)
    obtain ⟨k1, k2⟩ := h.key j ks[j] (List.getElem?_eq_getElem hj)
    rw [(ka_rk h.op j).1] at k1
    rw [(ka_rk h.op j).2] at k2
    refine ⟨k1, ?_⟩
    show Op.bytesLess (rkS L (kyP L p q t v) (kyQ L p q t v) (kyT L p q t v) (kyV L p q t v) j) k = decide (j < i0)
    rw [k2]
    exact hcut j hj
  have hkey : i0 < ks.length → rkE L (kyP L p q t v) (kyQ L p q t v) (kyT L p q t v) (kyV L p q t v) i0 = 0 ∧ rkS L (kyP L p q t v) (kyQ L p q t v) (kyT L p q t v) (kyV L p q t v) i0 ≠ k := by
    intro hlt
    obtain ⟨k1, k2⟩ := h.key i0 ks[i0] (List.getElem?_eq_getElem hlt)
    rw [(ka_rk h.op i0).1] at k1
    rw [(ka_rk h.op i0).2] at k2
    exact ⟨k1, fun e => hk (by rw [← e, k2]; exact List.getElem_mem _)⟩
  have hg : fdGo L k p q t v = false := by
    refine decide_eq_false ?_
    rintro ⟨_, _, h3, _, h5⟩
    rw [hX] at h3 h5
    rw [hN] at h3
    have h3 : i0 ≠ ks.length := h3
    exact (hkey (by omega)).2 h5
  refine ⟨hB, ?_, ?_, ?_, ?_, ?_⟩
  · unfold fdE
    rw [hg, if_neg (by decide), if_neg (by rw [h.op]; decide), hX, if_neg (by simp)]
    by_cases e : i0 = opN L p q t v
    · rw [if_pos e]
    · rw [if_neg e]
      rw [hN] at e
      exact (hkey (by omega)).1
  · unfold fdP
    rw [hg]
    rfl
  · unfold fdQ
    rw [hg]
    rfl
  · unfold fdT
    rw [hg]
    rfl
  · unfold fdV
    rw [hg]
    rfl
end Go.Proofs.YtfoifdoaleaekaaGreat
