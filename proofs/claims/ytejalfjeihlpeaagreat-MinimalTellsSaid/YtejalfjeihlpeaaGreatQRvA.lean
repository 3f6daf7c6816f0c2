/-
  Package accordionref28: the order of parts; the state of a walk in memory.
-/
import Derived.Test.YtejalfjeihlpeaaGreatQ36
namespace Go.Proofs.YtejalfjeihlpeaaGreat
open Go.RowKit Go.Acc
set_option maxRecDepth 100000 in
set_option maxHeartbeats 1000000 in
theorem rless_is (a b c a' b' c' : Int) (z : Bool) (w : World) (hz : decide (LtP (a, b, c) (a', b', c')) = z) :
    Calls Tryz.prog 62 #[.agg #[.int .i64 a, .int .i64 b, .int .i64 c], .agg #[.int .i64 a', .int .i64 b', .int .i64 c']] w fun e w' => e = .returned (.bool z) ∧ Below w.heap.size w w' := by
  have hor : (a < a' ∧ z = true) ∨ (a' < a ∧ z = false) ∨ (a = a' ∧ ((b < b' ∧ z = true) ∨ (b' < b ∧ z = false) ∨ (b = b' ∧ ((c < c' ∧ z = true) ∨ (¬ c < c' ∧ z = false))))) := by
    cases z with
    | true =>
      have h := of_decide_eq_true hz
      unfold LtP at h
      simp only at h
      simp only [and_true, reduceCtorEq, and_false, or_false, false_or]
      omega
    | false =>
      have h := of_decide_eq_false hz
      unfold LtP at h
      simp only at h
      simp only [and_true, reduceCtorEq, and_false, false_or]
      omega
  have HOR := Lib.hid hor
  clear hor hz
  have HX := Lib.hid ((Blk.new w 57 #[.int .i64 a, .int .i64 b, .int .i64 c]).alloc (.cells #[.int .i64 a', .int .i64 b', .int .i64 c'] 57))
  have HY := Lib.hid (Blk.new_ (w := w.alloc (.cells #[.int .i64 a, .int .i64 b, .int .i64 c] 57)) (g := w.heap.size + 1) (by simp) 57 #[.int .i64 a', .int .i64 b', .int .i64 c'])
  have HB := Lib.hid (((Below.refl w.heap.size w).alloc (Nat.le_refl _) (.cells #[.int .i64 a, .int .i64 b, .int .i64 c] 57)).alloc ((Below.refl w.heap.size w).alloc (Nat.le_refl _) (.cells #[.int .i64 a, .int .i64 b, .int .i64 c] 57)).size (.cells #[.int .i64 a', .int .i64 b', .int .i64 c'] 57))
  go_enter Tryz.func62, Tryz.ntmps62
  go_upto_region 1 with fail
  generalize (w.alloc (.cells #[.int .i64 a, .int .i64 b, .int .i64 c] 57)).alloc (.cells #[.int .i64 a', .int .i64 b', .int .i64 c'] 57) = w1 at HX HY HB ⊢
  generalize w.heap.size + 1 = gY at HY ⊢
  have x0 : _ = some (Value.int .i64 a) := HX.out.cell 0
  have x1 : _ = some (Value.int .i64 b) := HX.out.cell 1
  have x2 : _ = some (Value.int .i64 c) := HX.out.cell 2
  have y0 : _ = some (Value.int .i64 a') := HY.out.cell 0
  have y1 : _ = some (Value.int .i64 b') := HY.out.cell 1
  have y2 : _ = some (Value.int .i64 c') := HY.out.cell 2
  rcases HOR.out with ⟨h, rfl⟩ | ⟨h, rfl⟩ | ⟨rfl, ⟨h, rfl⟩ | ⟨h, rfl⟩ | ⟨rfl, ⟨h, rfl⟩ | ⟨h, rfl⟩⟩⟩
  · have t1 : (a != a') = true := by simpa using (show a ≠ a' by omega)
    go_wp2
    go_ret
    exact ⟨rfl, HB.out⟩
  · have t1 : (a != a') = true := by simpa using (show a ≠ a' by omega)
    have t2 : ¬ a < a' := by omega
    clear h
    go_wp2
    go_ret
    exact ⟨rfl, HB.out⟩
  · go_wp2
    go_ret
    exact ⟨rfl, HB.out⟩
  · have t2 : ¬ b < b' := by omega
    have t3 : (b == b') = false := beq_eq_false_iff_ne.mpr (by omega)
    clear h
    go_wp2
    go_ret
    exact ⟨rfl, HB.out⟩
  · go_wp2
    go_ret
    exact ⟨rfl, HB.out⟩
  · go_wp2
    go_ret
    exact ⟨rfl, HB.out⟩
set_option maxHeartbeats 400000 in
theorem rinl_spec (t : Int) (w : World) : Calls Tryz.prog 64 #[.int .i64 t] w fun e w' => e = .returned (.int .i64 (if t = 0 then 1 else if t = 1 then 2 else if t = 2 then 3 else 4)) ∧ w = w' := by
  by_cases h0 : t = 0
  · subst h0
    go_enter Tryz.func64, Tryz.ntmps64
    go_wp2
    go_ret
    exact ⟨rfl, rfl⟩
  have e0 : (t == 0) = false := beq_eq_false_iff_ne.mpr h0
  by_cases h1 : t = 1
  · subst h1
    go_enter Tryz.func64, Tryz.ntmps64
    go_wp2
    go_ret
    exact ⟨rfl, rfl⟩
  have e1 : (t == 1) = false := beq_eq_false_iff_ne.mpr h1
  by_cases h2 : t = 2
  · subst h2
    go_enter Tryz.func64, Tryz.ntmps64
    go_wp2
    go_ret
    exact ⟨rfl, rfl⟩
  have e2 : (t == 2) = false := beq_eq_false_iff_ne.mpr h2
  rw [if_neg h0, if_neg h1, if_neg h2]
  clear h0 h1 h2
  go_enter Tryz.func64, Tryz.ntmps64
  go_wp2
  go_ret
  exact ⟨rfl, rfl⟩
/-- What the reference keeps of visited data: a reference whose Pos is the target. -/
def hcl (x : P3) : List Value := [.int .i64 x.1, .int .i64 0, .int .i64 x.2.1, .int .i64 x.2.2]
theorem hcl_len (x : P3) : (hcl x).length = 4 := rfl
theorem hcl_one (x : P3) : ∀ u ∈ hcl x, u.oneCell' = true := by
  intro u hu
  simp [hcl] at hu
  rcases hu with rfl | rfl | rfl | rfl <;> rfl
abbrev IsH := Is hcl
abbrev OwnH := Go.Acc.Own hcl 4 48
theorem info_h : (Tryz.prog.info? 48).map (fun i => (i.zero, i.size, i.bytes)) = some (some (.agg #[.int .i64 0, .int .i64 0, .int .i64 0, .int .i64 0]), 4, 32) := by kernel_rfl
/-- Where the walk's things lie: the bytes, the walk's struct; rows lie from block B2 on. -/
structure RvE where
  B0 : Nat
  B2 : Nat
  bw : Nat
  A : Option Addr
  n : Nat
  c : Nat
  l : List UInt8
structure RvE.Ok (E : RvE) : Prop where
  hA : ∀ ad, E.A = some ad → ad.block < E.B0
  w0 : E.B0 ≤ E.bw
  w2 : E.bw < E.B2
  hc : E.n ≤ E.c
  hn : E.n ≤ 4294967296
abbrev Rows2 := Option Nat × Option Nat
structure RvW (E : RvE) (g : Rows2) (s : CvS) (w : World) : Prop where
  ok : E.Ok
  b : IsB w E.A E.n E.l
  R : ∃ Ah nh ch Al nl cl, Blk w E.bw 65 #[.slice E.A E.n E.c, .int .i64 s.left, .slice Ah nh ch, .slice Al nl cl] ∧ OwnH w E.B2 Ah nh ch s.had ∧ OwnP w E.B2 Al nl cl (cvSort s.out) ∧ Ah.map (·.block) = g.1 ∧ Al.map (·.block) = g.2
  sz : E.B2 ≤ w.heap.size
/-- A block that is not the walk's. -/
def RvE.Free (E : RvE) (g : Rows2) (k : Nat) : Prop := k ≠ E.bw ∧ g.1 ≠ some k ∧ g.2 ≠ some k
structure RvTo (E : RvE) (g g' : Rows2) (w w' : World) : Prop where
  fr : Fr (fun k => ¬ E.Free g k) w w'
  keep : ∀ k, k < w.heap.size → E.Free g k → E.Free g' k
section
variable {E : RvE} {s : CvS} {g g' g'' : Rows2} {w w' w'' : World}
theorem RvTo.refl (E : RvE) (g : Rows2) (w : World) : RvTo E g g w w := ⟨Fr.refl _ _, fun _ _ h => h⟩
theorem RvTo.of_below (hb : Below w.heap.size w w') : RvTo E g g w w' := ⟨Fr.of_below hb _, fun _ _ h => h⟩
theorem RvTo.trans (h : RvTo E g g' w w') (h' : RvTo E g' g'' w' w'') : RvTo E g g'' w w'' :=
  ⟨h.fr.trans h'.fr (fun k hk hn hf => hn (h.keep k hk hf)), fun k hk hf => h'.keep k (Nat.lt_of_lt_of_le hk h.fr.size) (h.keep k hk hf)⟩
theorem RvTo.below (h : RvTo E g g' w w') (hb : Below w'.heap.size w' w'') : RvTo E g g' w w'' := h.trans (RvTo.of_below hb)
theorem RvTo.drew (h : RvTo E g g' w w') : RvTo E g g' w w'.drew := h.below ((Below.refl _ _).drew)
theorem RvTo.alloc (h : RvTo E g g' w w') (o : Obj) : RvTo E g g' w (w'.alloc o) := h.below ((Below.refl _ _).alloc (Nat.le_refl _) o)
def RLone (E : RvE) (g : Rows2) (w : World) (k : Nat) (t : TypeId) (cs : Array Value) : Prop := Blk w k t cs ∧ E.Free g k
theorem RLone.to {k : Nat} {t : TypeId} {cs : Array Value} (h : RLone E g w k t cs) (ht : RvTo E g g' w w') : RLone E g' w' k t cs := ⟨h.1.fr ht.fr (fun hn => hn h.2), ht.keep k h.1.lt h.2⟩
theorem RLone.pure {k : Nat} {t : TypeId} {cs : Array Value} (h : RLone E g w k t cs) (hb : Below w.heap.size w w') : RLone E g w' k t cs := ⟨h.1.pure hb, h.2⟩
theorem RLone.drew {k : Nat} {t : TypeId} {cs : Array Value} (h : RLone E g w k t cs) : RLone E g w.drew k t cs := h
theorem RvW.pure (h : RvW E g s w) (hb : Below w.heap.size w w') : RvW E g s w' := by
  obtain ⟨Ah, nh, ch, Al, nl, cl, h1, h2, h3, h4, h5⟩ := h.R
  exact ⟨h.ok, h.b.pure hb, ⟨Ah, nh, ch, Al, nl, cl, h1.pure hb, h2.pure hb, h3.pure hb, h4, h5⟩, Nat.le_trans h.sz hb.size⟩
theorem RvW.drew (h : RvW E g s w) : RvW E g s w.drew := h.pure ((Below.refl _ _).drew)
theorem RvW.alloc (h : RvW E g s w) (o : Obj) : RvW E g s (w.alloc o) := h.pure ((Below.refl _ _).alloc (Nat.le_refl _) o)
theorem RvW.len (h : RvW E g s w) : E.l.length = E.n := h.b.1
theorem RvW.row1 (h : RvW E g s w) : ∀ k, g.1 = some k → E.B2 ≤ k ∧ k < w.heap.size := by
  obtain ⟨Ah, nh, ch, Al, nl, cl, h1, h2, h3, h4, h5⟩ := h.R
  intro k hk
  cases Ah with
  | none => rw [← h4] at hk; cases hk
  | some ad =>
    rw [← h4] at hk
    injection hk with hk
    subst hk
    exact ⟨(h2.addr ad rfl).2.1, (h2.addr ad rfl).2.2⟩
theorem RvW.row2 (h : RvW E g s w) : ∀ k, g.2 = some k → E.B2 ≤ k ∧ k < w.heap.size := by
  obtain ⟨Ah, nh, ch, Al, nl, cl, h1, h2, h3, h4, h5⟩ := h.R
  intro k hk
  cases Al with
  | none => rw [← h5] at hk; cases hk
  | some ad =>
    rw [← h5] at hk
    injection hk with hk
    subst hk
    exact ⟨(h3.addr ad rfl).2.1, (h3.addr ad rfl).2.2⟩
theorem RvW.newer (h : RvW E g s w) {k : Nat} (hk : w.heap.size ≤ k) : E.Free g k := by
  have := h.sz
  have := h.ok.w2
  refine ⟨by omega, fun e => ?_, fun e => ?_⟩
  · have := (h.row1 _ e).2; omega
  · have := (h.row2 _ e).2; omega
theorem RvW.lone (h : RvW E g s w) (t : TypeId) (cs : Array Value) : RLone E g (w.alloc (.cells cs t)) w.heap.size t cs := ⟨Blk.new w t cs, h.newer (Nat.le_refl _)⟩
theorem RvW.low (h : RvW E g s w) {k : Nat} (hk : k < E.B0) : E.Free g k := by
  have := h.ok.w0
  have := h.ok.w2
  refine ⟨by omega, fun e => ?_, fun e => ?_⟩
  · have := (h.row1 _ e).1; omega
  · have := (h.row2 _ e).1; omega
theorem RvTo.belowB (h : RvTo E g g' w w') (hw : RvW E g s w) : Below E.B0 w w' := by
  refine h.fr.belowB (fun k hk hn => hn (hw.low hk)) ?_
  have := hw.sz; have := hw.ok.w0; have := hw.ok.w2; omega
theorem RvW.c0 (h : RvW E g s w) : w.cell? ⟨E.bw, 0, none⟩ = some (.slice E.A E.n E.c) := by
  obtain ⟨_, _, _, _, _, _, h1, _⟩ := h.R
  exact h1.cell 0
theorem RvW.c1 (h : RvW E g s w) : w.cell? ⟨E.bw, 1, none⟩ = some (.int .i64 s.left) := by
  obtain ⟨_, _, _, _, _, _, h1, _⟩ := h.R
  exact h1.cell 1
theorem RvW.frozen (h : RvW E g s w) (i : Nat) : w.frozen? ⟨E.bw, i, none⟩ = false := by
  obtain ⟨_, _, _, _, _, _, h1, _⟩ := h.R
  exact h1.frozen i
end
/-- The state s' is reached. -/
def RvDone (E : RvE) (g : Rows2) (s' : CvS) (w w' : World) : Prop := ∃ g', RvW E g' s' w' ∧ RvTo E g g' w w'
/-- What a visit answers, and the state after it. -/
def RvRes (E : RvE) (g : Rows2) (w : World) (y : CvS × Int) (e : Ending) (w' : World) : Prop := e = .returned (.int .i64 y.2) ∧ RvDone E g y.1 w w'
end Go.Proofs.YtejalfjeihlpeaaGreat
