/-
  Package cover: more fuel does not change the result (property CoverFuel).
  Package accordionref28: the order of parts; the state of a walk in memory.
  Package accordionref28: a part is inserted in order.
-/
import Derived.Test.YtejalfjeihlpeaaGreatQ30
import Derived.Deep.RegionLaw
namespace Go.Proofs.YtejalfjeihlpeaaGreat
open Go.RowKit Go.Acc
def CvS.more (s : CvS) (k : Nat) : CvS := { s with left := s.left + k }
theorem tell_more (s : CvS) (k : Nat) (a b c : Int) : (s.more k).tell a b c = (s.tell a b c).more k := by unfold CvS.tell; split <;> rfl
def Eases (k : Nat) (go go' : Rq → CvS → CvS × Int) : Prop := ∀ r s, (go r s).2 ≠ 260 → go' r (s.more k) = ((go r s).1.more k, (go r s).2)
section
variable {l : List UInt8} {go go' : Rq → CvS → CvS × Int} (r : Rq) {k : Nat}
theorem text_more (s : CvS) : cvText l r (s.more k) = ((cvText l r s).1.more k, (cvText l r s).2) := by
  unfold cvText
  (repeat' split) <;> simp only [tell_more]
theorem apart_more (s : CvS) : cvApart l r (s.more k) = ((cvApart l r s).1.more k, (cvApart l r s).2) := by
  unfold cvApart
  (repeat' split) <;> simp only [tell_more]
theorem tag_more (i : Nat) (s : CvS) : cvTag l r i (s.more k) = (cvTag l r i s).more k := by unfold cvTag; split <;> simp only [tell_more]
theorem len_more (s : CvS) : cvLen l r (s.more k) = (cvLen l r s).more k := by unfold cvLen; split <;> simp only [tell_more]
theorem keys_more (hg : Eases k go go') (s : CvS) (h : (cvKeys l go r s).2 ≠ 260) : cvKeys l go' r (s.more k) = ((cvKeys l go r s).1.more k, (cvKeys l go r s).2) := by
  unfold cvKeys at h ⊢
  split
  · rfl
  · rename_i h1
    rw [if_neg h1] at h
    have hne : (go (cvKey l r) s).2 ≠ 260 := by
      by_cases h2 : (go (cvKey l r) s).2 ≠ 0
      · rw [if_pos h2] at h; exact h
      · have := Decidable.of_not_not h2; omega
    have e := hg (cvKey l r) s hne
    rw [e]
    split
    · rfl
    · simp only [tell_more]
theorem head_more (hg : Eases k go go') (s : CvS) (h : (cvHead l go r s).2 ≠ 260) : cvHead l go' r (s.more k) = ((cvHead l go r s).1.more k, (cvHead l go r s).2) := by
  unfold cvHead at h ⊢
  split
  · rename_i ht
    rw [if_pos ht] at h
    exact keys_more r hg s h
  · rfl
theorem elems_more (hg : Eases k go go') : ∀ (n i : Nat) (s : CvS), (cvElems l go r n i s).2 ≠ 260 → cvElems l go' r n i (s.more k) = ((cvElems l go r n i s).1.more k, (cvElems l go r n i s).2)
  | 0, i, s, _ => rfl
  | n + 1, i, s, h => by
    unfold cvElems at h ⊢
    rw [tag_more]
    split
    · rfl
    · rename_i h1
      rw [if_neg h1] at h
      have hne : (go (cvAt l r i) (cvTag l r i s)).2 ≠ 260 := by
        by_cases h2 : (go (cvAt l r i) (cvTag l r i s)).2 ≠ 0
        · rw [if_pos h2] at h; exact h
        · have := Decidable.of_not_not h2; omega
      have e := hg (cvAt l r i) (cvTag l r i s) hne
      rw [e]
      split
      · rfl
      · rename_i h2
        rw [if_neg h2] at h
        exact elems_more hg n (i + 1) _ h
theorem list_more (hg : Eases k go go') (s : CvS) (h : (cvList l go r s).2 ≠ 260) : cvList l go' r (s.more k) = ((cvList l go r s).1.more k, (cvList l go r s).2) := by
  unfold cvList at h ⊢
  split
  · rfl
  · rename_i h1
    rw [if_neg h1] at h
    have hne : (cvHead l go r s).2 ≠ 260 := by
      by_cases h2 : (cvHead l go r s).2 ≠ 0
      · rw [if_pos h2] at h; exact h
      · have := Decidable.of_not_not h2; omega
    have e := head_more r hg s hne
    rw [e]
    split
    · rfl
    · rename_i h2
      rw [if_neg h2] at h
      simp only [len_more]
      exact elems_more r hg _ _ _ h
theorem data_more (hg : Eases k go go') (s : CvS) (h : (cvData l go r s).2 ≠ 260) : cvData l go' r (s.more k) = ((cvData l go r s).1.more k, (cvData l go r s).2) := by
  unfold cvData at h ⊢
  split
  · exact text_more r s
  · rename_i h1
    rw [if_neg h1] at h
    split
    · exact apart_more r s
    · rename_i h2
      rw [if_neg h2] at h
      exact list_more r hg s h
end
theorem start_more (r : Rq) (s : CvS) (k : Nat) : cvStart r (s.more k) = (cvStart r s).more k := by
  unfold cvStart
  rw [← tell_more]
  congr 1
  unfold CvS.burn CvS.more
  simp only
  congr 1
  omega
theorem come_more (l : List UInt8) (k : Nat) : ∀ d d', d ≤ d' → Eases k (cvCome l d) (cvCome l d')
  | 0, _, _, r, s, h => absurd rfl h
  | d + 1, 0, h, _, _, _ => by omega
  | d + 1, d' + 1, hd, r, s, h => by
    unfold cvCome at h ⊢
    by_cases h1 : s.left < 1
    · rw [if_pos h1] at h; exact absurd rfl h
    · rw [if_neg h1] at h
      rw [if_neg h1, if_neg (show ¬ (s.more k).left < 1 by unfold CvS.more; simp only; omega), start_more]
      split
      · rfl
      · rename_i h2
        rw [if_neg h2] at h
        have eh : (s.more k).had = s.had := rfl
        rw [eh]
        split
        · rfl
        · rename_i h3
          rw [if_neg h3] at h
          have es : ((cvStart r s).more k).see (cvSpot l r) = ((cvStart r s).see (cvSpot l r)).more k := rfl
          rw [es]
          exact data_more r (come_more l k d d' (by omega)) _ h
theorem fuel_more (l : List UInt8) (n m : Int) (h : n ≤ m) (he : cvPartsE l n ≠ 260) : cvPartsE l m = cvPartsE l n ∧ cvParts l m = cvParts l n := by
  obtain ⟨k, rfl⟩ : ∃ k : Nat, m = n + k := ⟨(m - n).toNat, by omega⟩
  have hE : cvPartsE l (n + k) = cvPartsE l n ∧ (rootE l = 0 → (cvVisit l (n + k)).1.out = (cvVisit l n).1.out) := by
    unfold cvPartsE at he ⊢
    by_cases hr : rootE l ≠ 0
    · rw [if_pos hr, if_pos hr]; exact ⟨rfl, fun h => absurd h hr⟩
    · rw [if_neg hr] at he
      rw [if_neg hr, if_neg hr]
      have h1 := come_more l k (n.toNat + 1) ((n + k).toNat + 1) (by omega) (cvRoot l) (cvS1 l n) he
      have h2 : (cvS1 l n).more k = cvS1 l (n + k) := by unfold cvS1; rw [← tell_more, ← tell_more]; rfl
      rw [h2] at h1
      unfold cvVisit
      rw [h1]
      exact ⟨rfl, fun _ => rfl⟩
  refine ⟨hE.1, ?_⟩
  unfold cvParts
  rw [hE.1]
  split
  · rfl
  · rename_i h0
    have h0 := Decidable.of_not_not h0
    have hr : rootE l = 0 := by
      refine Decidable.byContradiction fun hr => ?_
      unfold cvPartsE at h0
      rw [if_pos hr] at h0
      exact hr h0
    rw [hE.2 hr]
set_option maxRecDepth 100000 in
set_option maxHeartbeats 400000 in
theorem bytes28_spec (A : Option Addr) (n c : Nat) (l : List UInt8) (w : World) (h : IsB w A n l) (hc : n ≤ c) :
    Calls Tryz.prog 7 #[.slice A n c] w fun e w' => ∃ A' n' c', e = .returned (.slice A' n' c') ∧ n' ≤ 1500 ∧ OwnB w' w.heap.size A' n' c' (l.take 1500) ∧ Below w.heap.size w w' := by
  obtain ⟨M, hMn, hMB, hmin, hcut⟩ := cut_facts A n c 1500 1500 rfl hc
  have hl := h.1
  have hM : l.take 1500 = l.take M := by
    by_cases hn : n ≤ 1500
    · have : M = n := by split at hmin <;> omega
      rw [this, List.take_of_length_le (by omega), List.take_of_length_le (by omega)]
    · have : M = 1500 := by split at hmin <;> omega
      rw [this]
  rw [hM]
  have hmin2 : min (n : Int) 1500 = M := by split at hmin <;> omega
  have HM := Lib.hid (h.take bc_len hMn)
  clear h hl hM
  go_enter Tryz.func7, Tryz.ntmps7
  go_wp2_with fail
  go_at_call 24
  refine (copyb_spec A M c (l.take M) _ HM.out (by omega)).mono ?_
  rintro e w1 ⟨A1, n1, c1, rfl, hO1, hb1⟩
  obtain rfl : M = n1 := by rw [← hO1.1, HM.out.1]
  have HO := Lib.hid hO1
  have HB := Lib.hid hb1
  clear hO1 hb1
  go_wp2_with fail
  go_ret
  exact ⟨A1, M, c1, rfl, by omega, HO.out, HB.out⟩
end Go.Proofs.YtejalfjeihlpeaaGreat

namespace Go.Proofs.YtejalfjeihlpeaaGreat
open Go.RowKit Go.Acc
set_option maxRecDepth 100000 in
set_option maxHeartbeats 1000000 in
theorem rless_is (a b c a' b' c' : Int) (z : Bool) (w : World) (hz : decide (LtP (a, b, c) (a', b', c')) = z) :
    Calls Tryz.prog 62 #[.agg #[.int .i64 a, .int .i64 b, .int .i64 c], .agg #[.int .i64 a', .int .i64 b', .int .i64 c']] w fun e w' => e = .returned (.bool z) ∧ Below w.heap.size w w' := by
  have hor : (a < a' ∧ z = true) ∨ (a' < a ∧ z = false) ∨ (a = a' ∧ ((b < b' ∧ z = true) ∨ (b' < b ∧ z = false) ∨ (b = b' ∧ ((c < c' ∧ z = true) ∨ (¬ c < c' ∧ z = false))))) := by
    cases z with
    | true =>
      have h := of_decide_eq_true hz
      unfold LtP at h
      simp only at h
      simp only [and_true, reduceCtorEq, and_false, or_false, false_or]
      omega
    | false =>
      have h := of_decide_eq_false hz
      unfold LtP at h
      simp only at h
      simp only [and_true, reduceCtorEq, and_false, false_or]
      omega
  have HOR := Lib.hid hor
  clear hor hz
  have HX := Lib.hid ((Blk.new w 57 #[.int .i64 a, .int .i64 b, .int .i64 c]).alloc (.cells #[.int .i64 a', .int .i64 b', .int .i64 c'] 57))
  have HY := Lib.hid (Blk.new_ (w := w.alloc (.cells #[.int .i64 a, .int .i64 b, .int .i64 c] 57)) (g := w.heap.size + 1) (by simp) 57 #[.int .i64 a', .int .i64 b', .int .i64 c'])
  have HB := Lib.hid (((Below.refl w.heap.size w).alloc (Nat.le_refl _) (.cells #[.int .i64 a, .int .i64 b, .int .i64 c] 57)).alloc ((Below.refl w.heap.size w).alloc (Nat.le_refl _) (.cells #[.int .i64 a, .int .i64 b, .int .i64 c] 57)).size (.cells #[.int .i64 a', .int .i64 b', .int .i64 c'] 57))
  go_enter Tryz.func62, Tryz.ntmps62
  go_upto_region 1 with fail
  generalize (w.alloc (.cells #[.int .i64 a, .int .i64 b, .int .i64 c] 57)).alloc (.cells #[.int .i64 a', .int .i64 b', .int .i64 c'] 57) = w1 at HX HY HB ⊢
  generalize w.heap.size + 1 = gY at HY ⊢
  have x0 : _ = some (Value.int .i64 a) := HX.out.cell 0
  have x1 : _ = some (Value.int .i64 b) := HX.out.cell 1
  have x2 : _ = some (Value.int .i64 c) := HX.out.cell 2
  have y0 : _ = some (Value.int .i64 a') := HY.out.cell 0
  have y1 : _ = some (Value.int .i64 b') := HY.out.cell 1
  have y2 : _ = some (Value.int .i64 c') := HY.out.cell 2
  rcases HOR.out with ⟨h, rfl⟩ | ⟨h, rfl⟩ | ⟨rfl, ⟨h, rfl⟩ | ⟨h, rfl⟩ | ⟨rfl, ⟨h, rfl⟩ | ⟨h, rfl⟩⟩⟩
  · have t1 : (a != a') = true := by simpa using (show a ≠ a' by omega)
    go_wp2
    go_ret
    exact ⟨rfl, HB.out⟩
  · have t1 : (a != a') = true := by simpa using (show a ≠ a' by omega)
    have t2 : ¬ a < a' := by omega
    clear h
    go_wp2
    go_ret
    exact ⟨rfl, HB.out⟩
  · go_wp2
    go_ret
    exact ⟨rfl, HB.out⟩
  · have t2 : ¬ b < b' := by omega
    have t3 : (b == b') = false := beq_eq_false_iff_ne.mpr (by omega)
    clear h
    go_wp2
    go_ret
    exact ⟨rfl, HB.out⟩
  · go_wp2
    go_ret
    exact ⟨rfl, HB.out⟩
  · go_wp2
    go_ret
    exact ⟨rfl, HB.out⟩
set_option maxHeartbeats 400000 in
theorem rinl_spec (t : Int) (w : World) : Calls Tryz.prog 64 #[.int .i64 t] w fun e w' => e = .returned (.int .i64 (if t = 0 then 1 else if t = 1 then 2 else if t = 2 then 3 else 4)) ∧ w = w' := by
  by_cases h0 : t = 0
  · subst h0
    go_enter Tryz.func64, Tryz.ntmps64
    go_wp2
    go_ret
    exact ⟨rfl, rfl⟩
  have e0 : (t == 0) = false := beq_eq_false_iff_ne.mpr h0
  by_cases h1 : t = 1
  · subst h1
    go_enter Tryz.func64, Tryz.ntmps64
    go_wp2
    go_ret
    exact ⟨rfl, rfl⟩
  have e1 : (t == 1) = false := beq_eq_false_iff_ne.mpr h1
  by_cases h2 : t = 2
  · subst h2
    go_enter Tryz.func64, Tryz.ntmps64
    go_wp2
    go_ret
    exact ⟨rfl, rfl⟩
  have e2 : (t == 2) = false := beq_eq_false_iff_ne.mpr h2
  rw [if_neg h0, if_neg h1, if_neg h2]
  clear h0 h1 h2
  go_enter Tryz.func64, Tryz.ntmps64
  go_wp2
  go_ret
  exact ⟨rfl, rfl⟩
/-- What the reference keeps of visited data: a reference whose Pos is the target. -/
def hcl (x : P3) : List Value := [.int .i64 x.1, .int .i64 0, .int .i64 x.2.1, .int .i64 x.2.2]
theorem hcl_len (x : P3) : (hcl x).length = 4 := rfl
theorem hcl_one (x : P3) : ∀ u ∈ hcl x, u.oneCell' = true := by
  intro u hu
  simp [hcl] at hu
  rcases hu with rfl | rfl | rfl | rfl <;> rfl
abbrev IsH := Is hcl
abbrev OwnH := Own hcl 4 48
theorem info_h : (Tryz.prog.info? 48).map (fun i => (i.zero, i.size, i.bytes)) = some (some (.agg #[.int .i64 0, .int .i64 0, .int .i64 0, .int .i64 0]), 4, 32) := by kernel_rfl
/-- Where the walk's things lie: the bytes, the walk's struct; rows lie from block B2 on. -/
structure RvE where
  B0 : Nat
  B2 : Nat
  bw : Nat
  A : Option Addr
  n : Nat
  c : Nat
  l : List UInt8
structure RvE.Ok (E : RvE) : Prop where
  hA : ∀ ad, E.A = some ad → ad.block < E.B0
  w0 : E.B0 ≤ E.bw
  w2 : E.bw < E.B2
  hc : E.n ≤ E.c
  hn : E.n ≤ 4294967296
abbrev Rows2 := Option Nat × Option Nat
structure RvW (E : RvE) (g : Rows2) (s : CvS) (w : World) : Prop where
  ok : E.Ok
  b : IsB w E.A E.n E.l
  R : ∃ Ah nh ch Al nl cl, Blk w E.bw 65 #[.slice E.A E.n E.c, .int .i64 s.left, .slice Ah nh ch, .slice Al nl cl] ∧ OwnH w E.B2 Ah nh ch s.had ∧ OwnP w E.B2 Al nl cl (cvSort s.out) ∧ Ah.map (·.block) = g.1 ∧ Al.map (·.block) = g.2
  sz : E.B2 ≤ w.heap.size
/-- A block that is not the walk's. -/
def RvE.Free (E : RvE) (g : Rows2) (k : Nat) : Prop := k ≠ E.bw ∧ g.1 ≠ some k ∧ g.2 ≠ some k
structure RvTo (E : RvE) (g g' : Rows2) (w w' : World) : Prop where
  fr : Fr (fun k => ¬ E.Free g k) w w'
  keep : ∀ k, k < w.heap.size → E.Free g k → E.Free g' k
section
variable {E : RvE} {s : CvS} {g g' g'' : Rows2} {w w' w'' : World}
theorem RvTo.refl (E : RvE) (g : Rows2) (w : World) : RvTo E g g w w := ⟨Fr.refl _ _, fun _ _ h => h⟩
theorem RvTo.of_below (hb : Below w.heap.size w w') : RvTo E g g w w' := ⟨Fr.of_below hb _, fun _ _ h => h⟩
theorem RvTo.trans (h : RvTo E g g' w w') (h' : RvTo E g' g'' w' w'') : RvTo E g g'' w w'' :=
  ⟨h.fr.trans h'.fr (fun k hk hn hf => hn (h.keep k hk hf)), fun k hk hf => h'.keep k (Nat.lt_of_lt_of_le hk h.fr.size) (h.keep k hk hf)⟩
theorem RvTo.below (h : RvTo E g g' w w') (hb : Below w'.heap.size w' w'') : RvTo E g g' w w'' := h.trans (RvTo.of_below hb)
theorem RvTo.drew (h : RvTo E g g' w w') : RvTo E g g' w w'.drew := h.below ((Below.refl _ _).drew)
theorem RvTo.alloc (h : RvTo E g g' w w') (o : Obj) : RvTo E g g' w (w'.alloc o) := h.below ((Below.refl _ _).alloc (Nat.le_refl _) o)
def RLone (E : RvE) (g : Rows2) (w : World) (k : Nat) (t : TypeId) (cs : Array Value) : Prop := Blk w k t cs ∧ E.Free g k
theorem RLone.to {k : Nat} {t : TypeId} {cs : Array Value} (h : RLone E g w k t cs) (ht : RvTo E g g' w w') : RLone E g' w' k t cs := ⟨h.1.fr ht.fr (fun hn => hn h.2), ht.keep k h.1.lt h.2⟩
theorem RLone.pure {k : Nat} {t : TypeId} {cs : Array Value} (h : RLone E g w k t cs) (hb : Below w.heap.size w w') : RLone E g w' k t cs := ⟨h.1.pure hb, h.2⟩
theorem RLone.drew {k : Nat} {t : TypeId} {cs : Array Value} (h : RLone E g w k t cs) : RLone E g w.drew k t cs := h
theorem RvW.pure (h : RvW E g s w) (hb : Below w.heap.size w w') : RvW E g s w' := by
  obtain ⟨Ah, nh, ch, Al, nl, cl, h1, h2, h3, h4, h5⟩ := h.R
  exact ⟨h.ok, h.b.pure hb, ⟨Ah, nh, ch, Al, nl, cl, h1.pure hb, h2.pure hb, h3.pure hb, h4, h5⟩, Nat.le_trans h.sz hb.size⟩
theorem RvW.drew (h : RvW E g s w) : RvW E g s w.drew := h.pure ((Below.refl _ _).drew)
theorem RvW.alloc (h : RvW E g s w) (o : Obj) : RvW E g s (w.alloc o) := h.pure ((Below.refl _ _).alloc (Nat.le_refl _) o)
theorem RvW.len (h : RvW E g s w) : E.l.length = E.n := h.b.1
theorem RvW.row1 (h : RvW E g s w) : ∀ k, g.1 = some k → E.B2 ≤ k ∧ k < w.heap.size := by
  obtain ⟨Ah, nh, ch, Al, nl, cl, h1, h2, h3, h4, h5⟩ := h.R
  intro k hk
  cases Ah with
  | none => rw [← h4] at hk; cases hk
  | some ad =>
    rw [← h4] at hk
    injection hk with hk
    subst hk
    exact ⟨(h2.addr ad rfl).2.1, (h2.addr ad rfl).2.2⟩
theorem RvW.row2 (h : RvW E g s w) : ∀ k, g.2 = some k → E.B2 ≤ k ∧ k < w.heap.size := by
  obtain ⟨Ah, nh, ch, Al, nl, cl, h1, h2, h3, h4, h5⟩ := h.R
  intro k hk
  cases Al with
  | none => rw [← h5] at hk; cases hk
  | some ad =>
    rw [← h5] at hk
    injection hk with hk
    subst hk
    exact ⟨(h3.addr ad rfl).2.1, (h3.addr ad rfl).2.2⟩
theorem RvW.newer (h : RvW E g s w) {k : Nat} (hk : w.heap.size ≤ k) : E.Free g k := by
  have := h.sz
  have := h.ok.w2
  refine ⟨by omega, fun e => ?_, fun e => ?_⟩
  · have := (h.row1 _ e).2; omega
  · have := (h.row2 _ e).2; omega
theorem RvW.lone (h : RvW E g s w) (t : TypeId) (cs : Array Value) : RLone E g (w.alloc (.cells cs t)) w.heap.size t cs := ⟨Blk.new w t cs, h.newer (Nat.le_refl _)⟩
theorem RvW.low (h : RvW E g s w) {k : Nat} (hk : k < E.B0) : E.Free g k := by
  have := h.ok.w0
  have := h.ok.w2
  refine ⟨by omega, fun e => ?_, fun e => ?_⟩
  · have := (h.row1 _ e).1; omega
  · have := (h.row2 _ e).1; omega
theorem RvTo.belowB (h : RvTo E g g' w w') (hw : RvW E g s w) : Below E.B0 w w' := by
  refine h.fr.belowB (fun k hk hn => hn (hw.low hk)) ?_
  have := hw.sz; have := hw.ok.w0; have := hw.ok.w2; omega
theorem RvW.c0 (h : RvW E g s w) : w.cell? ⟨E.bw, 0, none⟩ = some (.slice E.A E.n E.c) := by
  obtain ⟨_, _, _, _, _, _, h1, _⟩ := h.R
  exact h1.cell 0
theorem RvW.c1 (h : RvW E g s w) : w.cell? ⟨E.bw, 1, none⟩ = some (.int .i64 s.left) := by
  obtain ⟨_, _, _, _, _, _, h1, _⟩ := h.R
  exact h1.cell 1
theorem RvW.frozen (h : RvW E g s w) (i : Nat) : w.frozen? ⟨E.bw, i, none⟩ = false := by
  obtain ⟨_, _, _, _, _, _, h1, _⟩ := h.R
  exact h1.frozen i
end
/-- The state s' is reached. -/
def RvDone (E : RvE) (g : Rows2) (s' : CvS) (w w' : World) : Prop := ∃ g', RvW E g' s' w' ∧ RvTo E g g' w w'
/-- What a visit answers, and the state after it. -/
def RvRes (E : RvE) (g : Rows2) (w : World) (y : CvS × Int) (e : Ending) (w' : World) : Prop := e = .returned (.int .i64 y.2) ∧ RvDone E g y.1 w w'
end Go.Proofs.YtejalfjeihlpeaaGreat

namespace Go.Proofs.YtejalfjeihlpeaaGreat
open Go.RowKit Go.Acc
theorem ins_at (x : P3) : ∀ (L : List P3) (k : Nat), k ≤ L.length → (∀ j y, j < k → L[j]? = some y → LtP y x) → (∀ y, L[k]? = some y → ¬ LtP y x ∧ y ≠ x) → insP x L = L.take k ++ [x] ++ L.drop k
  | [], k, hk, _, _ => by
    obtain rfl : k = 0 := by simpa using hk
    rfl
  | y :: L, 0, _, _, h => by
    obtain ⟨h1, h2⟩ := h y rfl
    simp [insP, h1, h2]
  | y :: L, k + 1, hk, h, h' => by
    have hy : LtP y x := h 0 y (by omega) rfl
    have ih := ins_at x L k (by simpa using hk) (fun j z hj hz => h (j + 1) z (by omega) (by simpa using hz)) (fun z hz => h' z (by simpa using hz))
    simp [insP, hy, ih]
theorem ins_same (x : P3) : ∀ (L : List P3) (k : Nat), (∀ j y, j < k → L[j]? = some y → LtP y x) → L[k]? = some x → insP x L = L
  | [], k, _, h => by simp at h
  | y :: L, 0, _, h => by
    obtain rfl : y = x := by simpa using h
    simp [insP, ltp_irrefl]
  | y :: L, k + 1, h, h' => by
    have hy : LtP y x := h 0 y (by omega) rfl
    have ih := ins_same x L k (fun j z hj hz => h (j + 1) z (by omega) (by simpa using hz)) (by simpa using h')
    simp [insP, hy, ih]
theorem tell_sort (s : CvS) (a b c : Int) (h : a < b) : cvSort (s.tell a b c).out = insP (a, b, c) (cvSort s.out) := by
  unfold CvS.tell
  rw [if_pos h]
  exact cvSort_append _ _
theorem cutp_to (A : Option Addr) (n c M : Nat) (h : M ≤ c) (w : World) : (Instr.sliceAt 24 (.slice A n c) none (some (.int .i64 M)) none).run Tryz.prog w = .ok (.slice A M c) w := by
  have ht : Tryz.prog.underlying 24 = some (.slice (Tryz.prog.elem 24)) := by kernel_rfl
  have hz : (sizeOf (Tryz.prog.elem 24)).run Tryz.prog w = .ok 3 w := by kernel_rfl
  rw [run_sliceAt_slice (h := ht), run_slice_h (ht := ht) (h0 := by omega) (h2 := by omega), hz]
  simp [Result.andThen, sliced]
  intro _
  cases A <;> simp [Addr.add]
theorem cutp_from (A : Option Addr) (n c lo : Nat) (h1 : lo ≤ n) (hc : n ≤ c) : ∃ X, (∀ w, (Instr.sliceAt 24 (.slice A n c) (some (.int .i64 lo)) none none).run Tryz.prog w = .ok (.slice X (n - lo) (c - lo)) w) ∧
    ∀ w l, IsP w A n l → IsP w X (n - lo) (l.drop lo) := by
  refine ⟨if c = lo then A else A.map (·.add (lo * 3)), fun w => ?_, fun w l h => ?_⟩
  · have ht : Tryz.prog.underlying 24 = some (.slice (Tryz.prog.elem 24)) := by kernel_rfl
    have hz : (sizeOf (Tryz.prog.elem 24)).run Tryz.prog w = .ok 3 w := by kernel_rfl
    rw [run_sliceAt_slice (h := ht), run_slice_l (ht := ht) (h0 := by omega) (h1 := by omega), hz]
    simp [Result.andThen, sliced]
  · split
    · rename_i e
      exact h.cut0 e hc
    · exact h.cut1 pc_len
theorem step_appP {ops : Array Oper} {o : Oper} {a : Act} {w : World} {K : Act → World → Prop} {Q : Exit → Act → World → Prop} {E : Prop} (hgd : o.guard = none) (s x : Operand)
    (ho : o.op = .call { callee := .builtin .append, args := #[s, x], argTypes := #[24, 24] })
    (B : Nat) (A : Option Addr) (n c : Nat) (l : List P3) (hs : a.eval s = .slice A n c) (hown : OwnP w B A n c l)
    (A2 : Option Addr) (m d : Nat) (l2 : List P3) (hx : a.eval x = .slice A2 m d) (hr : IsP w A2 m l2)
    (hbytes : n + m ≤ 1099511627776) (hbase : B ≤ w.heap.size)
    (h : ∀ A' c' w', OwnP w' B A' (n + m) c' (l ++ l2) → Fr (fun k => ∃ ad, A = some ad ∧ k = ad.block) w w' → K (a.put o.dst (.slice A' (n + m) c')) w') :
    if Region.wanted o (yielded ops a.tmps) = true then Oper.wp Tryz.prog o a w K Q else E := by
  have hw : Region.wanted o (yielded ops a.tmps) = true := by simp [Region.wanted, hgd]
  rw [if_pos hw]
  obtain ⟨i, hi', hz, hsize, hby⟩ := info_parts info_p
  have e2 : n + m ≤ maxLen := by simp only [maxLen]; omega
  obtain ⟨v', w', hrun, h2, h3, _⟩ := run_append_rd (P := Tryz.prog) w B 24 o.type 57 i _ 3 24 Tryz.underlying24 hi' hz hsize hby rfl (by omega) (.slice A n c) n (l.flatMap pc) hown.2 A2 m d (l2.flatMap pc) (by rw [fm_length pc_len, hr.1]) hr.2 (fm_one pc_one l2) e2 (by omega) hbase
  obtain ⟨A', c', rfl, ho'⟩ := Own.mk pc_len (by omega) (l := l ++ l2) h2 List.flatMap_append.symm
  have hk := h A' c' w' ho' ((Fr.of_grown h3).mono fun i _ hi => by
    cases A with
    | none => simp [Value.ownBlock] at hi
    | some ad => simp [Value.ownBlock] at hi; exact ⟨ad, rfl, hi⟩)
  clear h ho' h2 h3
  unfold Oper.wp
  simp only [execOp, ho, resolve, invoke, builtin, Sem.run_bind, Sem.run_pure, Result.andThen_ok, List.map_toArray, List.map_cons, List.map_nil, hs, hx, hrun]
  exact hk
end Go.Proofs.YtejalfjeihlpeaaGreat
