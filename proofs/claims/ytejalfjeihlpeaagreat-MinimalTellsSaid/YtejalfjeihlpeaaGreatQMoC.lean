/-
  Package accordionref30: the method for a type; what a look holds in memory.
-/
import Derived.Test.YtejalfjeihlpeaaGreatQMoB
namespace Go.Proofs.YtejalfjeihlpeaaGreat
open Go.RowKit Go.Acc
set_option maxRecDepth 100000 in
set_option maxHeartbeats 1000000 in
theorem rfits30_is (A : Option Addr) (n c : Nat) (p q t v f : Int) (r : Bool) (l : List UInt8) (w : World) (h : IsB w A n l) (hn : n ≤ 4294967296) (hf : isW f = true) (hr : mnFits l ⟨p, q, t, v⟩ f = r) :
    Calls Tryz.prog 77 #[.slice A n c, .agg #[.int .i64 p, .int .i64 q, .int .i64 t, .int .i64 v], .int .i64 f] w fun e w' => e = .returned (.bool r) ∧ Below w.heap.size w w' := by
  have HF := Lib.hid hf
  have hlen := h.1
  have hn2 : n ≤ 1099511627776 := by omega
  have hn3 : n ≤ 9223372036854775807 := by omega
  unfold mnFits at hr
  simp only at hr
  by_cases h5 : t = 5
  · subst h5
    rw [if_pos (.inl rfl)] at hr
    clear hf
    unfold mnText at hr
    have hle := fndL_le l p q 5 v
    obtain ⟨m, hm⟩ : ∃ m, (fndL l p q 5 v [4, 5, 25]).length = m := ⟨_, rfl⟩
    rw [hm] at hr hle
    have HMM := Lib.hid (show ((fndL l p q 5 v [4, 5, 25]).length : Int) = (m : Int) by rw [hm])
    have hw2 : IntKind.u64.wrap (m : Int) = m := by rw [IntKind.wrap_u64]; omega
    have hmb : (m : Int) < 18446744073709551616 := by omega
    have HR := Lib.hid hr
    clear hm hr hle
    have HI := Lib.hid (h.alloc (.cells #[.int .i64 p, .int .i64 q, .int .i64 5, .int .i64 v] 48))
    have HX := Lib.hid (Blk.new w 48 #[.int .i64 p, .int .i64 q, .int .i64 5, .int .i64 v])
    have HB := Lib.hid ((Below.refl w.heap.size w).alloc (Nat.le_refl _) (.cells #[.int .i64 p, .int .i64 q, .int .i64 5, .int .i64 v] 48))
    clear h
    have x0 := cell0 HX.out
    have x1 := cell1 HX.out
    have x2 := cell2 HX.out
    have x3 := cell3 HX.out
    go_enter Tryz.func77, Tryz.ntmps77
    go_wp2_with fail
    go_at_call 100
    refine (rplace_is A n c p q 5 v _ m _ l _ HI.out hn2 rfl HMM.out rfl).mono ?_
    rintro e wn ⟨rfl, hb⟩
    replace HB := Lib.hid (pure_below HB.out hb)
    replace HI := Lib.hid (HI.out.pure hb)
    replace HX := Lib.hid (HX.out.pure hb)
    clear x0 x1 x2 x3 hb
    have x0 := cell0 HX.out
    have x1 := cell1 HX.out
    have x2 := cell2 HX.out
    have x3 := cell3 HX.out
    go_wp2_with fail
    go_at_call 76
    refine (rfits_at f m r _ HF.out hmb HR.out).mono ?_
    rintro e wn ⟨rfl, hb⟩
    replace HB := Lib.hid (pure_below HB.out hb)
    replace HI := Lib.hid (HI.out.pure hb)
    replace HX := Lib.hid (HX.out.pure hb)
    clear x0 x1 x2 x3 hb
    have x0 := cell0 HX.out
    have x1 := cell1 HX.out
    have x2 := cell2 HX.out
    have x3 := cell3 HX.out
    go_wp2
    go_ret
    exact ⟨rfl, HB.out⟩
  by_cases h25 : t = 25
  · subst h25
    rw [if_pos (.inr rfl)] at hr
    clear hf h5
    unfold mnText at hr
    have hle := fndL_le l p q 25 v
    obtain ⟨m, hm⟩ : ∃ m, (fndL l p q 25 v [4, 5, 25]).length = m := ⟨_, rfl⟩
    rw [hm] at hr hle
    have HMM := Lib.hid (show ((fndL l p q 25 v [4, 5, 25]).length : Int) = (m : Int) by rw [hm])
    have hw2 : IntKind.u64.wrap (m : Int) = m := by rw [IntKind.wrap_u64]; omega
    have hmb : (m : Int) < 18446744073709551616 := by omega
    have HR := Lib.hid hr
    clear hm hr hle
    have HI := Lib.hid (h.alloc (.cells #[.int .i64 p, .int .i64 q, .int .i64 25, .int .i64 v] 48))
    have HX := Lib.hid (Blk.new w 48 #[.int .i64 p, .int .i64 q, .int .i64 25, .int .i64 v])
    have HB := Lib.hid ((Below.refl w.heap.size w).alloc (Nat.le_refl _) (.cells #[.int .i64 p, .int .i64 q, .int .i64 25, .int .i64 v] 48))
    clear h
    have x0 := cell0 HX.out
    have x1 := cell1 HX.out
    have x2 := cell2 HX.out
    have x3 := cell3 HX.out
    go_enter Tryz.func77, Tryz.ntmps77
    go_wp2_with fail
    go_at_call 100
    refine (rplace_is A n c p q 25 v _ m _ l _ HI.out hn2 rfl HMM.out rfl).mono ?_
    rintro e wn ⟨rfl, hb⟩
    replace HB := Lib.hid (pure_below HB.out hb)
    replace HI := Lib.hid (HI.out.pure hb)
    replace HX := Lib.hid (HX.out.pure hb)
    clear x0 x1 x2 x3 hb
    have x0 := cell0 HX.out
    have x1 := cell1 HX.out
    have x2 := cell2 HX.out
    have x3 := cell3 HX.out
    go_wp2_with fail
    go_at_call 76
    refine (rfits_at f m r _ HF.out hmb HR.out).mono ?_
    rintro e wn ⟨rfl, hb⟩
    replace HB := Lib.hid (pure_below HB.out hb)
    replace HI := Lib.hid (HI.out.pure hb)
    replace HX := Lib.hid (HX.out.pure hb)
    clear x0 x1 x2 x3 hb
    have x0 := cell0 HX.out
    have x1 := cell1 HX.out
    have x2 := cell2 HX.out
    have x3 := cell3 HX.out
    go_wp2
    go_ret
    exact ⟨rfl, HB.out⟩
  rw [if_neg (by omega)] at hr
  have e5 : (t == 5) = false := beq_eq_false_iff_ne.mpr h5
  have e25 : (t == 25) = false := beq_eq_false_iff_ne.mpr h25
  by_cases h6 : t = 6
  · subst h6
    rw [if_pos rfl] at hr
    unfold mnInt mnS at hr
    obtain ⟨a, ha⟩ : ∃ a, plcA l p q 6 v = a := ⟨_, rfl⟩
    obtain ⟨x, hx⟩ : ∃ a, plcW l p q 6 v = a := ⟨_, rfl⟩
    rw [ha, hx] at hr
    have hb64 := loadI_64 l a x
    obtain ⟨nn, hnn⟩ : ∃ z, loadI l a x = z := ⟨_, rfl⟩
    rw [hnn] at hr hb64
    have HA := Lib.hid ha
    have HXX := Lib.hid hx
    have HNN := Lib.hid hnn
    have HR := Lib.hid hr
    clear ha hx hnn hr hf h5 h25 e5 e25
    have HI := Lib.hid (h.alloc (.cells #[.int .i64 p, .int .i64 q, .int .i64 6, .int .i64 v] 48))
    have HX := Lib.hid (Blk.new w 48 #[.int .i64 p, .int .i64 q, .int .i64 6, .int .i64 v])
    have HB := Lib.hid ((Below.refl w.heap.size w).alloc (Nat.le_refl _) (.cells #[.int .i64 p, .int .i64 q, .int .i64 6, .int .i64 v] 48))
    clear h
    have x0 := cell0 HX.out
    have x1 := cell1 HX.out
    have x2 := cell2 HX.out
    have x3 := cell3 HX.out
    go_enter Tryz.func77, Tryz.ntmps77
    go_wp2_with fail
    go_at_call 68
    refine (rsplace_is A n c p q 6 v a x _ l _ HI.out hn2 HA.out HXX.out rfl).mono ?_
    rintro e wn ⟨rfl, hb⟩
    replace HB := Lib.hid (pure_below HB.out hb)
    replace HI := Lib.hid (HI.out.pure hb)
    replace HX := Lib.hid (HX.out.pure hb)
    clear x0 x1 x2 x3 hb
    have x0 := cell0 HX.out
    have x1 := cell1 HX.out
    have x2 := cell2 HX.out
    have x3 := cell3 HX.out
    go_wp2_with fail
    go_at_call 111
    refine (rloadi_at A n c a x nn l _ HI.out hn3 HNN.out).mono ?_
    rintro e wn ⟨rfl, hb⟩
    replace HB := Lib.hid (pure_below HB.out hb)
    replace HI := Lib.hid (HI.out.pure hb)
    replace HX := Lib.hid (HX.out.pure hb)
    clear x0 x1 x2 x3 hb
    have x0 := cell0 HX.out
    have x1 := cell1 HX.out
    have x2 := cell2 HX.out
    have x3 := cell3 HX.out
    go_wp2_with fail
    go_at_call 112
    refine (rfitsi_at f nn r _ HF.out hb64 HR.out).mono ?_
    rintro e wn ⟨rfl, hb⟩
    replace HB := Lib.hid (pure_below HB.out hb)
    replace HI := Lib.hid (HI.out.pure hb)
    replace HX := Lib.hid (HX.out.pure hb)
    clear x0 x1 x2 x3 hb
    have x0 := cell0 HX.out
    have x1 := cell1 HX.out
    have x2 := cell2 HX.out
    have x3 := cell3 HX.out
    go_wp2
    go_ret
    exact ⟨rfl, HB.out⟩
  rw [if_neg h6] at hr
  have e6 : (t == 6) = false := beq_eq_false_iff_ne.mpr h6
  by_cases h7 : t = 7
  · subst h7
    rw [if_pos rfl] at hr
    unfold mnUint mnP at hr
    obtain ⟨a, ha⟩ : ∃ a, plcA l p q 7 v = a := ⟨_, rfl⟩
    obtain ⟨x, hx⟩ : ∃ a, plcW l p q 7 v = a := ⟨_, rfl⟩
    rw [ha, hx] at hr
    have hb64 := loadU_64 l a x
    obtain ⟨u, hnn⟩ : ∃ z, loadU l a x = z := ⟨_, rfl⟩
    rw [hnn] at hr hb64
    have HA := Lib.hid ha
    have HXX := Lib.hid hx
    have HNN := Lib.hid hnn
    have HR := Lib.hid hr
    have hub : (u : Int) < 18446744073709551616 := by omega
    clear ha hx hnn hr hf h5 h25 e5 e25 h6 e6 hb64
    have HI := Lib.hid (h.alloc (.cells #[.int .i64 p, .int .i64 q, .int .i64 7, .int .i64 v] 48))
    have HX := Lib.hid (Blk.new w 48 #[.int .i64 p, .int .i64 q, .int .i64 7, .int .i64 v])
    have HB := Lib.hid ((Below.refl w.heap.size w).alloc (Nat.le_refl _) (.cells #[.int .i64 p, .int .i64 q, .int .i64 7, .int .i64 v] 48))
    clear h
    have x0 := cell0 HX.out
    have x1 := cell1 HX.out
    have x2 := cell2 HX.out
    have x3 := cell3 HX.out
    go_enter Tryz.func77, Tryz.ntmps77
    go_wp2_with fail
    go_at_call 68
    refine (rsplace_is A n c p q 7 v a x _ l _ HI.out hn2 HA.out HXX.out rfl).mono ?_
    rintro e wn ⟨rfl, hb⟩
    replace HB := Lib.hid (pure_below HB.out hb)
    replace HI := Lib.hid (HI.out.pure hb)
    replace HX := Lib.hid (HX.out.pure hb)
    clear x0 x1 x2 x3 hb
    have x0 := cell0 HX.out
    have x1 := cell1 HX.out
    have x2 := cell2 HX.out
    have x3 := cell3 HX.out
    go_wp2_with fail
    go_at_call 99
    refine (rload_at A n c a x u l _ HI.out hn3 HNN.out).mono ?_
    rintro e wn ⟨rfl, hb⟩
    replace HB := Lib.hid (pure_below HB.out hb)
    replace HI := Lib.hid (HI.out.pure hb)
    replace HX := Lib.hid (HX.out.pure hb)
    clear x0 x1 x2 x3 hb
    have x0 := cell0 HX.out
    have x1 := cell1 HX.out
    have x2 := cell2 HX.out
    have x3 := cell3 HX.out
    go_wp2_with fail
    go_at_call 76
    refine (rfits_at f u r _ HF.out hub HR.out).mono ?_
    rintro e wn ⟨rfl, hb⟩
    replace HB := Lib.hid (pure_below HB.out hb)
    replace HI := Lib.hid (HI.out.pure hb)
    replace HX := Lib.hid (HX.out.pure hb)
    clear x0 x1 x2 x3 hb
    have x0 := cell0 HX.out
    have x1 := cell1 HX.out
    have x2 := cell2 HX.out
    have x3 := cell3 HX.out
    go_wp2
    go_ret
    exact ⟨rfl, HB.out⟩
  rw [if_neg h7] at hr
  have e7 : (t == 7) = false := beq_eq_false_iff_ne.mpr h7
  rw [← rm_list l ⟨p, q, t, v⟩ (isw_le hf).1] at hr
  have HR := Lib.hid hr
  clear hr hf h5 h25 h6 h7
  have HI := Lib.hid (h.alloc (.cells #[.int .i64 p, .int .i64 q, .int .i64 t, .int .i64 v] 48))
  have HX := Lib.hid (Blk.new w 48 #[.int .i64 p, .int .i64 q, .int .i64 t, .int .i64 v])
  have HB := Lib.hid ((Below.refl w.heap.size w).alloc (Nat.le_refl _) (.cells #[.int .i64 p, .int .i64 q, .int .i64 t, .int .i64 v] 48))
  clear h
  have x0 := cell0 HX.out
  have x1 := cell1 HX.out
  have x2 := cell2 HX.out
  have x3 := cell3 HX.out
  go_enter Tryz.func77, Tryz.ntmps77
  go_wp2_with fail
  go_at_call 113
  refine (rlist30_is A n c p q t v f r l _ HI.out hn HF.out HR.out).mono ?_
  rintro e wn ⟨rfl, hb⟩
  replace HB := Lib.hid (pure_below HB.out hb)
  replace HI := Lib.hid (HI.out.pure hb)
  replace HX := Lib.hid (HX.out.pure hb)
  clear x0 x1 x2 x3 hb
  have x0 := cell0 HX.out
  have x1 := cell1 HX.out
  have x2 := cell2 HX.out
  have x3 := cell3 HX.out
  go_wp2
  go_ret
  exact ⟨rfl, HB.out⟩
/-- Where a look's things lie: the bytes, its struct; rows lie from block B2 on. -/
structure RoE where
  B0 : Nat
  B2 : Nat
  bw : Nat
  A : Option Addr
  n : Nat
  c : Nat
  l : List UInt8
structure RoE.Ok (E : RoE) : Prop where
  hA : ∀ ad, E.A = some ad → ad.block < E.B0
  w0 : E.B0 ≤ E.bw
  w2 : E.bw < E.B2
  hc : E.n ≤ E.c
  hn : E.n ≤ 1000000
structure RoW (E : RoE) (g : Option Nat) (H : List P3) (x : Int) (w : World) : Prop where
  ok : E.Ok
  b : IsB w E.A E.n E.l
  R : ∃ Ah nh ch, Blk w E.bw 77 #[.slice E.A E.n E.c, .slice Ah nh ch, .int .i64 x] ∧ OwnH w E.B2 Ah nh ch H ∧ Ah.map (·.block) = g
  sz : E.B2 ≤ w.heap.size
/-- A block that is not the look's. -/
def RoE.Free (E : RoE) (g : Option Nat) (k : Nat) : Prop := k ≠ E.bw ∧ g ≠ some k
structure RoTo (E : RoE) (g g' : Option Nat) (w w' : World) : Prop where
  fr : Fr (fun k => ¬ E.Free g k) w w'
  keep : ∀ k, k < w.heap.size → E.Free g k → E.Free g' k
section
variable {E : RoE} {H : List P3} {x : Int} {g g' g'' : Option Nat} {w w' w'' : World}
theorem RoTo.refl (E : RoE) (g : Option Nat) (w : World) : RoTo E g g w w := ⟨Fr.refl _ _, fun _ _ h => h⟩
theorem RoTo.of_below (hb : Below w.heap.size w w') : RoTo E g g w w' := ⟨Fr.of_below hb _, fun _ _ h => h⟩
theorem RoTo.trans (h : RoTo E g g' w w') (h' : RoTo E g' g'' w' w'') : RoTo E g g'' w w'' :=
  ⟨h.fr.trans h'.fr (fun k hk hn hf => hn (h.keep k hk hf)), fun k hk hf => h'.keep k (Nat.lt_of_lt_of_le hk h.fr.size) (h.keep k hk hf)⟩
theorem RoTo.below (h : RoTo E g g' w w') (hb : Below w'.heap.size w' w'') : RoTo E g g' w w'' := h.trans (RoTo.of_below hb)
theorem RoTo.drew (h : RoTo E g g' w w') : RoTo E g g' w w'.drew := h.below ((Below.refl _ _).drew)
theorem RoTo.alloc (h : RoTo E g g' w w') (o : Obj) : RoTo E g g' w (w'.alloc o) := h.below ((Below.refl _ _).alloc (Nat.le_refl _) o)
def RoLone (E : RoE) (g : Option Nat) (w : World) (k : Nat) (t : TypeId) (cs : Array Value) : Prop := Blk w k t cs ∧ E.Free g k
theorem RoLone.to {k : Nat} {t : TypeId} {cs : Array Value} (h : RoLone E g w k t cs) (ht : RoTo E g g' w w') : RoLone E g' w' k t cs := ⟨h.1.fr ht.fr (fun hn => hn h.2), ht.keep k h.1.lt h.2⟩
theorem RoLone.pure {k : Nat} {t : TypeId} {cs : Array Value} (h : RoLone E g w k t cs) (hb : Below w.heap.size w w') : RoLone E g w' k t cs := ⟨h.1.pure hb, h.2⟩
theorem RoLone.drew {k : Nat} {t : TypeId} {cs : Array Value} (h : RoLone E g w k t cs) : RoLone E g w.drew k t cs := h
theorem RoW.pure (h : RoW E g H x w) (hb : Below w.heap.size w w') : RoW E g H x w' := by
  obtain ⟨Ah, nh, ch, h1, h2, h3⟩ := h.R
  exact ⟨h.ok, h.b.pure hb, ⟨Ah, nh, ch, h1.pure hb, h2.pure hb, h3⟩, Nat.le_trans h.sz hb.size⟩
theorem RoW.drew (h : RoW E g H x w) : RoW E g H x w.drew := h.pure ((Below.refl _ _).drew)
theorem RoW.alloc (h : RoW E g H x w) (o : Obj) : RoW E g H x (w.alloc o) := h.pure ((Below.refl _ _).alloc (Nat.le_refl _) o)
theorem RoW.len (h : RoW E g H x w) : E.l.length = E.n := h.b.1
theorem RoW.row (h : RoW E g H x w) : ∀ k, g = some k → E.B2 ≤ k ∧ k < w.heap.size := by
  obtain ⟨Ah, nh, ch, h1, h2, h4⟩ := h.R
  intro k hk
  cases Ah with
  | none => rw [← h4] at hk; cases hk
  | some ad =>
    rw [← h4] at hk
    injection hk with hk
    subst hk
    exact ⟨(h2.addr ad rfl).2.1, (h2.addr ad rfl).2.2⟩
theorem RoW.newer (h : RoW E g H x w) {k : Nat} (hk : w.heap.size ≤ k) : E.Free g k := by
  have := h.sz
  have := h.ok.w2
  refine ⟨by omega, fun e => ?_⟩
  have := (h.row _ e).2
  omega
theorem RoW.lone (h : RoW E g H x w) (t : TypeId) (cs : Array Value) : RoLone E g (w.alloc (.cells cs t)) w.heap.size t cs := ⟨Blk.new w t cs, h.newer (Nat.le_refl _)⟩
theorem RoW.low (h : RoW E g H x w) {k : Nat} (hk : k < E.B0) : E.Free g k := by
  have := h.ok.w0
  have := h.ok.w2
  refine ⟨by omega, fun e => ?_⟩
  have := (h.row _ e).1
  omega
theorem RoTo.belowB (h : RoTo E g g' w w') (hw : RoW E g H x w) : Below E.B0 w w' := by
  refine h.fr.belowB (fun k hk hn => hn (hw.low hk)) ?_
  have := hw.sz; have := hw.ok.w0; have := hw.ok.w2; omega
theorem RoW.c0 (h : RoW E g H x w) : w.cell? ⟨E.bw, 0, none⟩ = some (.slice E.A E.n E.c) := by
  obtain ⟨_, _, _, h1, _⟩ := h.R
  exact h1.cell 0
theorem RoW.c2 (h : RoW E g H x w) : w.cell? ⟨E.bw, 2, none⟩ = some (.int .i64 x) := by
  obtain ⟨_, _, _, h1, _⟩ := h.R
  exact h1.cell 2
theorem RoW.frozen (h : RoW E g H x w) (i : Nat) : w.frozen? ⟨E.bw, i, none⟩ = false := by
  obtain ⟨_, _, _, h1, _⟩ := h.R
  exact h1.frozen i
/-- The offset is noted. -/
theorem RoW.note (h : RoW E g H x w) (a : Int) : RoW E g H a (w.setCell ⟨E.bw, 2, none⟩ (.int .i64 a)) ∧ RoTo E g g w (w.setCell ⟨E.bw, 2, none⟩ (.int .i64 a)) := by
  have hf : Fr (fun k => k = E.bw) w (w.setCell ⟨E.bw, 2, none⟩ (.int .i64 a)) := Fr.setCell (S := fun k => k = E.bw) (Fr.refl _ _) (fun _ => rfl) _
  have ok := h.ok
  have hw0 := ok.w0
  have hw2 := ok.w2
  obtain ⟨Ah, nh, ch, h1, h2, h3⟩ := h.R
  refine ⟨⟨ok, h.b.fr hf ?_, ⟨Ah, nh, ch, h1.set_ 2 _, h2.fr hf ?_, h3⟩, Nat.le_trans h.sz hf.size⟩, hf.mono ?_, fun _ _ h => h⟩
  · intro ad had e
    have := ok.hA ad had
    have e : ad.block = E.bw := e
    omega
  · intro ad had e
    have := (h2.addr ad had).2.1
    have e : ad.block = E.bw := e
    omega
  · rintro k _ rfl hF
    exact hF.1 rfl
end
/-- A spot is recorded. -/
theorem ro_see {E : RoE} {g0 g : Option Nat} {H : List P3} {x : Int} {y : P3} {w wv w4 : World} {A4 Ah : Option Addr} {n4 c4 nh ch : Nat}
    (h : RoW E g H x wv) (ht : RoTo E g0 g w wv) (h1 : Blk wv E.bw 77 #[.slice E.A E.n E.c, .slice Ah nh ch, .int .i64 x]) (h2 : OwnH wv E.B2 Ah nh ch H) (h4 : Ah.map (·.block) = g)
    (hf : Fr (fun k => ∃ ad, Ah = some ad ∧ k = ad.block) wv w4) (hat : A4.map (·.block) = Ah.map (·.block) ∨ ∃ k, A4.map (·.block) = some k ∧ wv.heap.size ≤ k) (ho : OwnH w4 E.B2 A4 n4 c4 (H ++ [y])) :
    ∃ g', RoW E g' (H ++ [y]) x (w4.setCell ⟨E.bw, 1, none⟩ (.slice A4 n4 c4)) ∧ RoTo E g0 g' w (w4.setCell ⟨E.bw, 1, none⟩ (.slice A4 n4 c4)) := by
  have ok := h.ok
  have hsz := h.sz
  have hw2 := ok.w2
  have hw0 := ok.w0
  have hf4 : Fr (fun k => k = E.bw) w4 (w4.setCell ⟨E.bw, 1, none⟩ (.slice A4 n4 c4)) := Fr.setCell (S := fun k => k = E.bw) (Fr.refl _ _) (fun _ => rfl) _
  have hA : ∀ ad, Ah = some ad → E.B2 ≤ ad.block := fun ad had => (h2.addr ad had).2.1
  have hA4 : ∀ ad, A4 = some ad → E.B2 ≤ ad.block := fun ad had => (ho.addr ad had).2.1
  have hlow : ∀ k, k < E.B2 → ¬ ∃ ad, Ah = some ad ∧ k = ad.block := by
    rintro k hk ⟨ad, e, rfl⟩
    have := hA ad e
    omega
  refine ⟨A4.map (·.block), ⟨ok, ?_, ⟨A4, n4, c4, ?_, ?_, rfl⟩, ?_⟩, ht.trans ⟨?_, ?_⟩⟩
  · refine (h.b.fr hf (fun ad had => hlow _ ?_)).fr hf4 (fun ad had e => ?_)
    · have := ok.hA ad had; omega
    · have := ok.hA ad had
      have e : ad.block = E.bw := e
      omega
  · exact (h1.fr hf (hlow _ hw2)).set_ 1 _
  · refine ho.fr hf4 (fun ad had e => ?_)
    have h8 := hA4 ad had
    have e : ad.block = E.bw := e
    omega
  · exact Nat.le_trans hsz (Nat.le_trans hf.size hf4.size)
  · refine (hf.mono (T := fun k => ¬ E.Free g k) ?_).trans hf4 (fun k _ e hF => hF.1 e)
    rintro k _ ⟨ad, e, rfl⟩ hF
    apply hF.2
    rw [← h4, e]
    rfl
  · intro k hk hF
    refine ⟨hF.1, fun e => ?_⟩
    rcases hat with h8 | ⟨j, h8, h9⟩
    · rw [h8, h4] at e
      exact hF.2 e
    · rw [h8] at e
      injection e with e
      omega
end Go.Proofs.YtejalfjeihlpeaaGreat
