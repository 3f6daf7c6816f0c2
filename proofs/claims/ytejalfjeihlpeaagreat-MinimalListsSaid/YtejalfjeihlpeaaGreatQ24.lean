/-
  Package cover: the state of a walk in memory.
  Package cover: keys, strings, blobs.
  Package cover: indirect numbers.
  Chapter 28 in plain terms: a visit uses fuel, and tells few parts for each unit.
-/
import Derived.Test.YtejalfjeihlpeaaGreatQ23
namespace Go.Proofs.YtejalfjeihlpeaaGreat
open Go.RowKit Go.Acc
/-- Where the walk's things lie: the bytes, the walk's struct, its map, the variable of the parts; rows lie from block B2 on. -/
structure CvE where
  B0 : Nat
  B2 : Nat
  bw : Nat
  bm : Nat
  bl : Nat
  A : Option Addr
  n : Nat
  c : Nat
  l : List UInt8
structure CvE.Ok (E : CvE) : Prop where
  hA : ∀ ad, E.A = some ad → ad.block < E.B0
  l0 : E.B0 ≤ E.bl
  l2 : E.bl < E.B2
  m0 : E.B0 ≤ E.bm
  m2 : E.bm < E.B2
  w0 : E.B0 ≤ E.bw
  w2 : E.bw < E.B2
  lm : E.bl ≠ E.bm
  lw : E.bl ≠ E.bw
  mw : E.bm ≠ E.bw
  hc : E.n ≤ E.c
  hn : E.n ≤ 4294967296
def CvE.cells (E : CvE) (left : Int) : Array Value := #[.slice E.A E.n E.c, .int .i64 left, .map (some E.bm), .func (.func 26) #[] #[.pointer (some ⟨E.bl, 0, none⟩)]]
structure CvW (E : CvE) (g : Option Nat) (s : CvS) (w : World) : Prop where
  ok : E.Ok
  b : IsB w E.A E.n E.l
  W : Blk w E.bw 55 (E.cells s.left)
  M : MapS w E.bm s.had
  O : OutW w E.B2 E.bl g s.out
  sz : E.B2 ≤ w.heap.size
/-- A block that is not the walk's. -/
def CvE.Free (E : CvE) (g : Option Nat) (k : Nat) : Prop := k ≠ E.bl ∧ k ≠ E.bm ∧ k ≠ E.bw ∧ g ≠ some k
/-- What a visit may change: blocks of the walk's own. -/
structure CvTo (E : CvE) (g g' : Option Nat) (w w' : World) : Prop where
  fr : Fr (fun k => ¬ E.Free g k) w w'
  keep : ∀ k, k < w.heap.size → E.Free g k → E.Free g' k
section
variable {E : CvE} {s : CvS} {g g' g'' : Option Nat} {w w' w'' : World}
theorem CvTo.refl (E : CvE) (g : Option Nat) (w : World) : CvTo E g g w w := ⟨Fr.refl _ _, fun _ _ h => h⟩
theorem CvTo.of_below (hb : Below w.heap.size w w') : CvTo E g g w w' := ⟨Fr.of_below hb _, fun _ _ h => h⟩
theorem CvTo.trans (h : CvTo E g g' w w') (h' : CvTo E g' g'' w' w'') : CvTo E g g'' w w'' :=
  ⟨h.fr.trans h'.fr (fun k hk hn hf => hn (h.keep k hk hf)), fun k hk hf => h'.keep k (Nat.lt_of_lt_of_le hk h.fr.size) (h.keep k hk hf)⟩
theorem CvTo.below (h : CvTo E g g' w w') (hb : Below w'.heap.size w' w'') : CvTo E g g' w w'' := h.trans (CvTo.of_below hb)
theorem CvTo.drew (h : CvTo E g g' w w') : CvTo E g g' w w'.drew := h.below ((Below.refl _ _).drew)
theorem CvTo.alloc (h : CvTo E g g' w w') (o : Obj) : CvTo E g g' w (w'.alloc o) := h.below ((Below.refl _ _).alloc (Nat.le_refl _) o)
/-- A block of the call's own. -/
def Lone (E : CvE) (g : Option Nat) (w : World) (k : Nat) (t : TypeId) (cs : Array Value) : Prop := Blk w k t cs ∧ E.Free g k
theorem Lone.to {k : Nat} {t : TypeId} {cs : Array Value} (h : Lone E g w k t cs) (ht : CvTo E g g' w w') : Lone E g' w' k t cs := ⟨h.1.fr ht.fr (fun hn => hn h.2), ht.keep k h.1.lt h.2⟩
theorem Lone.pure {k : Nat} {t : TypeId} {cs : Array Value} (h : Lone E g w k t cs) (hb : Below w.heap.size w w') : Lone E g w' k t cs := ⟨h.1.pure hb, h.2⟩
theorem Lone.drew {k : Nat} {t : TypeId} {cs : Array Value} (h : Lone E g w k t cs) : Lone E g w.drew k t cs := h
theorem CvW.pure (h : CvW E g s w) (hb : Below w.heap.size w w') : CvW E g s w' := ⟨h.ok, h.b.pure hb, h.W.pure hb, h.M.pure hb, h.O.pure hb, Nat.le_trans h.sz hb.size⟩
theorem CvW.drew (h : CvW E g s w) : CvW E g s w.drew := h.pure ((Below.refl _ _).drew)
theorem CvW.alloc (h : CvW E g s w) (o : Obj) : CvW E g s (w.alloc o) := h.pure ((Below.refl _ _).alloc (Nat.le_refl _) o)
theorem CvW.len (h : CvW E g s w) : E.l.length = E.n := h.b.1
theorem CvW.new (h : CvW E g s w) : E.Free g w.heap.size := by
  have := h.sz
  have := h.ok.l2
  have := h.ok.m2
  have := h.ok.w2
  refine ⟨by omega, by omega, by omega, fun e => ?_⟩
  have := (h.O.row _ e).2
  omega
theorem CvW.lone (h : CvW E g s w) (t : TypeId) (cs : Array Value) : Lone E g (w.alloc (.cells cs t)) w.heap.size t cs := ⟨Blk.new w t cs, h.new⟩
theorem CvW.low (h : CvW E g s w) {k : Nat} (hk : k < E.B0) : E.Free g k := by
  have := h.ok.l0
  have := h.ok.l2
  have := h.ok.m0
  have := h.ok.w0
  refine ⟨by omega, by omega, by omega, fun e => ?_⟩
  have := (h.O.row _ e).1
  omega
theorem CvTo.belowB (h : CvTo E g g' w w') (hw : CvW E g s w) : Below E.B0 w w' := by
  refine h.fr.belowB (fun k hk hn => hn (hw.low hk)) ?_
  have := hw.sz; have := hw.ok.l0; have := hw.ok.l2; omega
theorem CvW.cells (h : CvW E g s w) : w.cell? ⟨E.bw, 0, none⟩ = some (.slice E.A E.n E.c) ∧ w.cell? ⟨E.bw, 1, none⟩ = some (.int .i64 s.left) ∧ w.cell? ⟨E.bw, 2, none⟩ = some (.map (some E.bm)) ∧
    w.cell? ⟨E.bw, 3, none⟩ = some (.func (.func 26) #[] #[.pointer (some ⟨E.bl, 0, none⟩)]) := ⟨h.W.cell 0, h.W.cell 1, h.W.cell 2, h.W.cell 3⟩
theorem told_cv {l' : List P3} (h : CvW E g s w) (ht : Told E.B2 E.bl g l' w w') : ∃ g', CvW E g' { s with out := l' } w' ∧ CvTo E g g' w w' := by
  have ok := h.ok
  obtain ⟨g', hO, hf, hg⟩ := ht
  have row := h.O.row
  have hk : ∀ k, k < E.B2 → k ≠ E.bl → ¬ (k = E.bl ∨ some k = g) := by
    rintro k h1 h2 (h3 | h3)
    · exact h2 h3
    · have := (row k h3.symm).1; omega
  refine ⟨g', ⟨ok, h.b.fr hf ?_, h.W.fr hf (hk _ ok.w2 (Ne.symm ok.lw)), h.M.fr hf (hk _ ok.m2 (Ne.symm ok.lm)), hO, Nat.le_trans h.sz hf.size⟩, hf.mono ?_, ?_⟩
  · intro ad had
    have := ok.hA ad had
    have := ok.l0
    have := ok.l2
    exact hk _ (by omega) (by omega)
  · rintro k _ (rfl | e) hF
    · exact hF.1 rfl
    · exact hF.2.2.2 e.symm
  · intro k hk' hF
    refine ⟨hF.1, hF.2.1, hF.2.2.1, ?_⟩
    rcases hg with rfl | ⟨j, rfl, hj⟩
    · exact hF.2.2.2
    · intro e
      injection e with e
      omega
theorem tell_cv (a b c : Int) (h : CvW E g s w) (hs : s.out.length ≤ 1073741824) :
    Calls Tryz.prog 26 #[.int .i64 a, .int .i64 b, .int .i64 c, .pointer (some ⟨E.bl, 0, none⟩)] w fun e w' => e = .returned (.tuple #[]) ∧ ∃ g', CvW E g' (s.tell a b c) w' ∧ CvTo E g g' w w' := by
  have hB : E.B2 ≤ w.heap.size := h.sz
  by_cases hab : a < b
  · refine (tell_yes E.B2 E.bl g a b c s.out w h.O hab hs h.sz h.ok.l2).mono ?_
    rintro e w' ⟨rfl, ht⟩
    have e : s.tell a b c = { s with out := s.out ++ [(a, b, c)] } := if_pos hab
    rw [e]
    exact ⟨rfl, told_cv h ht⟩
  · refine (tell_no E.B2 E.bl g a b c s.out w h.O hab).mono ?_
    rintro e w' ⟨rfl, ht⟩
    have e : s.tell a b c = s := if_neg hab
    rw [e]
    exact ⟨rfl, told_cv h ht⟩
end
/-- What a visit answers, and the state after it. -/
def CvRes (E : CvE) (g : Option Nat) (w : World) (y : CvS × Int) (e : Ending) (w' : World) : Prop := e = .returned (.int .i64 y.2) ∧ ∃ g', CvW E g' y.1 w' ∧ CvTo E g g' w w'
end Go.Proofs.YtejalfjeihlpeaaGreat

namespace Go.Proofs.YtejalfjeihlpeaaGreat
open Go.RowKit Go.Acc
theorem ldrew_ {w : World} {p : Addr} {u : Value} (h : w.cell? p = some u) : w.drew.cell? p = some u := h
theorem tplace_is (A : Option Addr) (n c : Nat) (p q t v a m er : Int) (l : List UInt8) (w : World) (h : IsB w A n l) (hc : n ≤ c) (hn : n ≤ 1099511627776) (h0 : fndA l p q t v [4, 5, 25] = a) (h1 : ((fndL l p q t v [4, 5, 25]).length : Int) = m) (h2 : fndE l p q t v [4, 5, 25] = er) :
    Calls Tryz.prog 88 #[.slice A n c, .agg #[.int .i64 p, .int .i64 q, .int .i64 t, .int .i64 v]] w fun e w' => e = .returned (.tuple #[.int .i64 a, .int .i64 m, .int .i64 er]) ∧ Below w.heap.size w w' := by
  subst h0 h1 h2
  exact place_spec A n c p q t v l w h hc hn
theorem tell_len (s : CvS) (a b c : Int) : (s.tell a b c).out.length ≤ s.out.length + 1 := by
  unfold CvS.tell
  by_cases h : a < b
  · rw [if_pos h]; simp
  · rw [if_neg h]; omega
theorem fnd_bounds {l : List UInt8} {p q t v : Int} (h : fndE l p q t v [4, 5, 25] = 0) : 0 ≤ fndA l p q t v [4, 5, 25] ∧ fndA l p q t v [4, 5, 25] + (fndL l p q t v [4, 5, 25]).length ≤ l.length ∧ 0 ≤ v ∧ v ≤ 8 ∧ mayE l.length p q t v = 0 := by
  have hm : mayE l.length p q t v = 0 := by
    by_cases g : mayE l.length p q t v = 0
    · exact g
    · unfold fndE at h
      rw [if_pos g] at h
      exact absurd h g
  obtain ⟨a, h1, _, h3⟩ := fnd_take h
  have hv := isW_iff.1 (formed_iff.1 (mayE_ok.1 hm).1).2.2
  refine ⟨by omega, by omega, by omega, by omega, hm⟩
set_option maxRecDepth 100000 in
set_option maxHeartbeats 2000000 in
theorem cvtext_spec (E : CvE) (g : Option Nat) (s : CvS) (p q t v : Int) (w : World) (h : CvW E g s w) (hs : s.out.length ≤ 1000000000) :
    Calls Tryz.prog 54 #[.pointer (some ⟨E.bw, 0, none⟩), .agg #[.int .i64 p, .int .i64 q, .int .i64 t, .int .i64 v]] w (CvRes E g w (cvText E.l ⟨p, q, t, v⟩ s)) := by
  have HC := Lib.hid (h.alloc (.cells #[.int .i64 p, .int .i64 q, .int .i64 t, .int .i64 v] 48))
  have HX := Lib.hid (h.lone 48 #[.int .i64 p, .int .i64 q, .int .i64 t, .int .i64 v])
  have HB := Lib.hid ((CvTo.refl E g w).alloc (.cells #[.int .i64 p, .int .i64 q, .int .i64 t, .int .i64 v] 48))
  obtain ⟨a, ha⟩ : ∃ a, fndA E.l p q t v [4, 5, 25] = a := ⟨_, rfl⟩
  obtain ⟨m, hm⟩ : ∃ m : Int, ((fndL E.l p q t v [4, 5, 25]).length : Int) = m := ⟨_, rfl⟩
  obtain ⟨er, he⟩ : ∃ a, fndE E.l p q t v [4, 5, 25] = a := ⟨_, rfl⟩
  have HAA := Lib.hid ha
  have HMM := Lib.hid hm
  have HEE := Lib.hid he
  have hcc := h.ok.hc
  have hnn := h.ok.hn
  have hlen := h.len
  clear h ha hm he
  obtain ⟨c0, c1, c2, c3⟩ := HC.out.cells; have x0 := cell0 HX.out.1; have x1 := cell1 HX.out.1; have x2 := cell2 HX.out.1; have x3 := cell3 HX.out.1
  go_enter Tryz.func54, Tryz.ntmps54
  go_wp2_with fail
  go_region_held3 (fun w' => w'.cell? ⟨E.bw, 0, none⟩ = some (.slice E.A E.n E.c) ∧ w'.cell? ⟨E.bw, 3, none⟩ = some (.func (.func 26) #[] #[.pointer (some ⟨E.bl, 0, none⟩)]) ∧ (w'.cell? ⟨w.heap.size, 0, none⟩ = some (.int .i64 p) ∧ w'.cell? ⟨w.heap.size, 1, none⟩ = some (.int .i64 q) ∧ w'.cell? ⟨w.heap.size, 2, none⟩ = some (.int .i64 t) ∧ w'.cell? ⟨w.heap.size, 3, none⟩ = some (.int .i64 v))) (first | with_reducible exact ⟨c0, c3, x0, x1, x2, x3⟩ | with_reducible exact ⟨ldrew_ c0, ldrew_ c3, ldrew_ x0, ldrew_ x1, ldrew_ x2, ldrew_ x3⟩) (first | (go_at_call 88; (with_reducible refine (tplace_is E.A E.n E.c p q t v a m er E.l _ HC.out.drew.b hcc (by omega) HAA.out HMM.out HEE.out).mono ?_); rintro e w1 ⟨rfl, hb1⟩; replace HB := Lib.hid (HB.out.drew.below hb1); replace HC := Lib.hid (HC.out.drew.pure hb1); replace HX := Lib.hid (HX.out.drew.pure hb1); clear c0 c1 c2 c3 x0 x1 x2 x3; clear hb1; obtain ⟨c0, c1, c2, c3⟩ := HC.out.cells; have x0 := cell0 HX.out.1; have x1 := cell1 HX.out.1; have x2 := cell2 HX.out.1; have x3 := cell3 HX.out.1))
  by_cases he : er = 0
  · subst he
    obtain ⟨b0, b1, b2, b3, _⟩ := fnd_bounds HEE.out
    rw [HAA.out] at b0 b1
    have hm0 : 0 ≤ m := by have := HMM.out; omega
    have hmn : a + m ≤ 4294967296 := by have := HMM.out; omega
    clear b1 hlen
    by_cases h4 : t = 4
    · subst h4
      go_wp2_with (go_at_call 26; (with_reducible refine (tell_cv a (a + m + 1) 9 HC.out (by omega)).mono ?_); rintro e w2 ⟨rfl, g2, hC2, hT2⟩; replace HB := Lib.hid (HB.out.trans hT2); replace HX := Lib.hid (HX.out.to hT2); replace HC := Lib.hid hC2; clear c0 c1 c2 c3 x0 x1 x2 x3; clear hC2 hT2; obtain ⟨c0, c1, c2, c3⟩ := HC.out.cells; have x0 := cell0 HX.out.1; have x1 := cell1 HX.out.1; have x2 := cell2 HX.out.1; have x3 := cell3 HX.out.1)
      go_ret
      have e : cvText E.l ⟨p, q, 4, v⟩ s = (s.tell a (a + m + 1) 9, 0) := by
        unfold cvText
        rw [HEE.out, HAA.out, HMM.out]
        rfl
      rw [e]
      exact ⟨rfl, _, HC.out, HB.out⟩
    · have e4 : (t == 4) = false := beq_eq_false_iff_ne.mpr h4
      have s1 := tell_len s (a - v) a 6
      have hw : IntKind.i64.wrap (a - v) = a - v := IntWalk.i64_in _ (by omega)
      go_wp2_with fail
      go_region_held3 (fun w' => w'.cell? ⟨E.bw, 0, none⟩ = some (.slice E.A E.n E.c) ∧ w'.cell? ⟨E.bw, 3, none⟩ = some (.func (.func 26) #[] #[.pointer (some ⟨E.bl, 0, none⟩)]) ∧ (w'.cell? ⟨w.heap.size, 0, none⟩ = some (.int .i64 p) ∧ w'.cell? ⟨w.heap.size, 1, none⟩ = some (.int .i64 q) ∧ w'.cell? ⟨w.heap.size, 2, none⟩ = some (.int .i64 t) ∧ w'.cell? ⟨w.heap.size, 3, none⟩ = some (.int .i64 v))) (first | with_reducible exact ⟨c0, c3, x0, x1, x2, x3⟩ | with_reducible exact ⟨ldrew_ c0, ldrew_ c3, ldrew_ x0, ldrew_ x1, ldrew_ x2, ldrew_ x3⟩) (first | (go_at_call 26; (with_reducible refine (tell_cv (a - v) a 6 HC.out.drew (by omega)).mono ?_); rintro e w2 ⟨rfl, g2, hC2, hT2⟩; replace HB := Lib.hid (HB.out.drew.trans hT2); replace HX := Lib.hid (HX.out.drew.to hT2); replace HC := Lib.hid hC2; clear c0 c1 c2 c3 x0 x1 x2 x3; clear hC2 hT2; obtain ⟨c0, c1, c2, c3⟩ := HC.out.cells; have x0 := cell0 HX.out.1; have x1 := cell1 HX.out.1; have x2 := cell2 HX.out.1; have x3 := cell3 HX.out.1))
      by_cases h5 : t = 5
      · subst h5
        go_wp2_with (go_at_call 26; (with_reducible refine (tell_cv a (a + m + 1) 10 HC.out (by omega)).mono ?_); rintro e w2 ⟨rfl, g2, hC2, hT2⟩; replace HB := Lib.hid (HB.out.trans hT2); replace HX := Lib.hid (HX.out.to hT2); replace HC := Lib.hid hC2; clear c0 c1 c2 c3 x0 x1 x2 x3; clear hC2 hT2; obtain ⟨c0, c1, c2, c3⟩ := HC.out.cells; have x0 := cell0 HX.out.1; have x1 := cell1 HX.out.1; have x2 := cell2 HX.out.1; have x3 := cell3 HX.out.1)
        go_ret
        have e : cvText E.l ⟨p, q, 5, v⟩ s = ((s.tell (a - v) a 6).tell a (a + m + 1) 10, 0) := by
          unfold cvText
          rw [HEE.out, HAA.out, HMM.out]
          rfl
        rw [e]
        exact ⟨rfl, _, HC.out, HB.out⟩
      · have e5 : (t == 5) = false := beq_eq_false_iff_ne.mpr h5
        go_wp2_with (go_at_call 26; (with_reducible refine (tell_cv a (a + m) 11 HC.out (by omega)).mono ?_); rintro e w2 ⟨rfl, g2, hC2, hT2⟩; replace HB := Lib.hid (HB.out.trans hT2); replace HX := Lib.hid (HX.out.to hT2); replace HC := Lib.hid hC2; clear c0 c1 c2 c3 x0 x1 x2 x3; clear hC2 hT2; obtain ⟨c0, c1, c2, c3⟩ := HC.out.cells; have x0 := cell0 HX.out.1; have x1 := cell1 HX.out.1; have x2 := cell2 HX.out.1; have x3 := cell3 HX.out.1)
        go_ret
        have e : cvText E.l ⟨p, q, t, v⟩ s = ((s.tell (a - v) a 6).tell a (a + m) 11, 0) := by
          unfold cvText
          rw [HEE.out, HAA.out, HMM.out]
          simp [h4, h5]
        rw [e]
        exact ⟨rfl, _, HC.out, HB.out⟩
  · have hne : (er != 0) = true := by simpa using he
    have e : cvText E.l ⟨p, q, t, v⟩ s = (s, er) := by
      unfold cvText
      rw [HEE.out, if_pos he]
    have HR := Lib.hid e
    clear e he
    go_wp2_with fail
    go_ret
    rw [HR.out]
    exact ⟨rfl, _, HC.out, HB.out⟩
end Go.Proofs.YtejalfjeihlpeaaGreat

namespace Go.Proofs.YtejalfjeihlpeaaGreat
open Go.RowKit Go.Acc
theorem plc_bounds {l : List UInt8} {p q t v : Int} (h : plcE l p q t v = 0) : 0 ≤ plcA l p q t v ∧ plcA l p q t v ≤ l.length ∧ 0 ≤ plcW l p q t v ∧ plcW l p q t v ≤ 8 := by
  unfold plcA plcW
  rw [if_pos h, if_pos h]
  rcases plc_cases l p q t v with ⟨hm, e⟩ | ⟨hm, _⟩
  · rw [e] at h; exact absurd h hm
  obtain ⟨h1, h2⟩ := mayE_ok.1 hm
  have h2 := inB_iff.1 h2
  have hq := isW_iff.1 (formed_iff.1 h1).2.1
  have hv := isW_iff.1 (formed_iff.1 h1).2.2
  by_cases hi : inlineT t = true
  · rw [if_pos hi, if_pos hi]
    omega
  · rw [if_neg hi, if_neg hi]
    have ht : 0 ≤ tgt l p q t v ∧ tgt l p q t v ≤ l.length := by
      by_cases g : tgtE l p q t v = 0
      · exact tgt_rg g
      · unfold tgt; rw [if_neg g]; omega
    omega
set_option maxRecDepth 100000 in
set_option maxHeartbeats 2000000 in
theorem cvapart_spec (E : CvE) (g : Option Nat) (s : CvS) (p q t v : Int) (w : World) (h : CvW E g s w) (hs : s.out.length ≤ 1000000000) :
    Calls Tryz.prog 55 #[.pointer (some ⟨E.bw, 0, none⟩), .agg #[.int .i64 p, .int .i64 q, .int .i64 t, .int .i64 v]] w (CvRes E g w (cvApart E.l ⟨p, q, t, v⟩ s)) := by
  have HC := Lib.hid (h.alloc (.cells #[.int .i64 p, .int .i64 q, .int .i64 t, .int .i64 v] 48))
  have HX := Lib.hid (h.lone 48 #[.int .i64 p, .int .i64 q, .int .i64 t, .int .i64 v])
  have HB := Lib.hid ((CvTo.refl E g w).alloc (.cells #[.int .i64 p, .int .i64 q, .int .i64 t, .int .i64 v] 48))
  obtain ⟨a, ha⟩ : ∃ a, plcA E.l p q t v = a := ⟨_, rfl⟩
  obtain ⟨m, hm⟩ : ∃ m, plcW E.l p q t v = m := ⟨_, rfl⟩
  obtain ⟨er, he⟩ : ∃ a, plcE E.l p q t v = a := ⟨_, rfl⟩
  have HAA := Lib.hid ha
  have HMM := Lib.hid hm
  have HEE := Lib.hid he
  have hcc := h.ok.hc
  have hnn := h.ok.hn
  have hlen := h.len
  clear h ha hm he
  obtain ⟨c0, c1, c2, c3⟩ := HC.out.cells; have x0 := cell0 HX.out.1; have x1 := cell1 HX.out.1; have x2 := cell2 HX.out.1; have x3 := cell3 HX.out.1
  go_enter Tryz.func55, Tryz.ntmps55
  go_wp2_with fail
  go_region_held3 (fun w' => w'.cell? ⟨E.bw, 0, none⟩ = some (.slice E.A E.n E.c) ∧ w'.cell? ⟨E.bw, 3, none⟩ = some (.func (.func 26) #[] #[.pointer (some ⟨E.bl, 0, none⟩)]) ∧ (w'.cell? ⟨w.heap.size, 0, none⟩ = some (.int .i64 p) ∧ w'.cell? ⟨w.heap.size, 1, none⟩ = some (.int .i64 q) ∧ w'.cell? ⟨w.heap.size, 2, none⟩ = some (.int .i64 t) ∧ w'.cell? ⟨w.heap.size, 3, none⟩ = some (.int .i64 v))) (first | with_reducible exact ⟨c0, c3, x0, x1, x2, x3⟩ | with_reducible exact ⟨ldrew_ c0, ldrew_ c3, ldrew_ x0, ldrew_ x1, ldrew_ x2, ldrew_ x3⟩) (first | (go_at_call 89; (with_reducible refine (plc_is E.A E.n E.c p q t v E.l a m er _ HC.out.drew.b hcc (by omega) HAA.out HMM.out HEE.out).mono ?_); rintro e w1 ⟨rfl, hb1⟩; replace HB := Lib.hid (HB.out.drew.below hb1); replace HC := Lib.hid (HC.out.drew.pure hb1); replace HX := Lib.hid (HX.out.drew.pure hb1); clear c0 c1 c2 c3 x0 x1 x2 x3; clear hb1; obtain ⟨c0, c1, c2, c3⟩ := HC.out.cells; have x0 := cell0 HX.out.1; have x1 := cell1 HX.out.1; have x2 := cell2 HX.out.1; have x3 := cell3 HX.out.1))
  by_cases he : er = 0
  · subst he
    obtain ⟨b0, b1, b2, b3⟩ := plc_bounds HEE.out
    rw [HAA.out] at b0 b1
    rw [HMM.out] at b2 b3
    by_cases h6 : t = 6
    · subst h6
      go_wp2_with (go_at_call 26; (with_reducible refine (tell_cv a (a + m) 12 HC.out (by omega)).mono ?_); rintro e w2 ⟨rfl, g2, hC2, hT2⟩; replace HB := Lib.hid (HB.out.trans hT2); replace HX := Lib.hid (HX.out.to hT2); replace HC := Lib.hid hC2; clear c0 c1 c2 c3 x0 x1 x2 x3; clear hC2 hT2; obtain ⟨c0, c1, c2, c3⟩ := HC.out.cells; have x0 := cell0 HX.out.1; have x1 := cell1 HX.out.1; have x2 := cell2 HX.out.1; have x3 := cell3 HX.out.1)
      go_ret
      have e : cvApart E.l ⟨p, q, 6, v⟩ s = (s.tell a (a + m) 12, 0) := by
        unfold cvApart
        rw [HEE.out, HAA.out, HMM.out]
        rfl
      rw [e]
      exact ⟨rfl, _, HC.out, HB.out⟩
    · have e6 : (t == 6) = false := beq_eq_false_iff_ne.mpr h6
      go_wp2_with (go_at_call 26; (with_reducible refine (tell_cv a (a + m) 13 HC.out (by omega)).mono ?_); rintro e w2 ⟨rfl, g2, hC2, hT2⟩; replace HB := Lib.hid (HB.out.trans hT2); replace HX := Lib.hid (HX.out.to hT2); replace HC := Lib.hid hC2; clear c0 c1 c2 c3 x0 x1 x2 x3; clear hC2 hT2; obtain ⟨c0, c1, c2, c3⟩ := HC.out.cells; have x0 := cell0 HX.out.1; have x1 := cell1 HX.out.1; have x2 := cell2 HX.out.1; have x3 := cell3 HX.out.1)
      go_ret
      have e : cvApart E.l ⟨p, q, t, v⟩ s = (s.tell a (a + m) 13, 0) := by
        unfold cvApart
        rw [HEE.out, HAA.out, HMM.out]
        simp [h6]
      rw [e]
      exact ⟨rfl, _, HC.out, HB.out⟩
  · have hne : (er == 0) = false := beq_eq_false_iff_ne.mpr he
    have e : cvApart E.l ⟨p, q, t, v⟩ s = (s, er) := by
      unfold cvApart
      rw [HEE.out, if_neg he]
    have HR := Lib.hid e
    clear e he
    go_wp2_with fail
    all_goals
      go_ret
      rw [HR.out]
      exact ⟨rfl, _, HC.out, HB.out⟩
end Go.Proofs.YtejalfjeihlpeaaGreat

namespace Go.Proofs.YtejalfjeihlpeaaGreat
open Go.RowKit Go.Acc
def CvS.size (s : CvS) : Nat := s.out.length + 8 * s.left.toNat
theorem tell_left (s : CvS) (a b c : Int) : (s.tell a b c).left = s.left := by unfold CvS.tell; split <;> rfl
theorem tell_had (s : CvS) (a b c : Int) : (s.tell a b c).had = s.had := by unfold CvS.tell; split <;> rfl
theorem tell_size (s : CvS) (a b c : Int) : (s.tell a b c).size ≤ s.size + 1 := by
  unfold CvS.size
  rw [tell_left]
  have := tell_len s a b c
  omega
/-- No more fuel than before, the size grown by k at most. -/
def Grew (k : Nat) (s s' : CvS) : Prop := s'.left ≤ s.left ∧ s'.size ≤ s.size + k
theorem Grew.refl (s : CvS) : Grew 0 s s := ⟨Int.le_refl _, Nat.le_refl _⟩
theorem Grew.mono {k j : Nat} {s s' : CvS} (h : Grew k s s') (hk : k ≤ j) : Grew j s s' := ⟨h.1, by have := h.2; omega⟩
theorem Grew.trans {k j : Nat} {s s' s'' : CvS} (h : Grew k s s') (h' : Grew j s' s'') : Grew (k + j) s s'' := ⟨Int.le_trans h'.1 h.1, by have := h.2; have := h'.2; omega⟩
theorem grew_tell (s : CvS) (a b c : Int) : Grew 1 s (s.tell a b c) := ⟨by rw [tell_left]; exact Int.le_refl _, tell_size s a b c⟩
def Goes (go : Rq → CvS → CvS × Int) : Prop := ∀ r s, Grew 0 s (go r s).1 ∧ ((go r s).2 = 0 → (go r s).1.size + 4 ≤ s.size)
section
variable {l : List UInt8} {go : Rq → CvS → CvS × Int} (r : Rq)
theorem text_grew (s : CvS) : Grew 2 s (cvText l r s).1 := by
  unfold cvText
  split
  · exact (Grew.refl s).mono (by omega)
  · split
    · exact (grew_tell _ _ _ _).mono (by omega)
    · split
      · exact (grew_tell _ _ _ _).trans (grew_tell _ _ _ _)
      · exact (grew_tell _ _ _ _).trans (grew_tell _ _ _ _)
theorem apart_grew (s : CvS) : Grew 2 s (cvApart l r s).1 := by
  unfold cvApart
  split
  · exact (grew_tell _ _ _ _).mono (by omega)
  · exact (Grew.refl s).mono (by omega)
theorem keys_grew (hgo : Goes go) (s : CvS) : Grew 0 s (cvKeys l go r s).1 := by
  unfold cvKeys
  split
  · exact Grew.refl s
  · split
    · exact (hgo _ _).1
    · rename_i h
      have h := (hgo (cvKey l r) s).2 (Decidable.of_not_not h)
      have h1 := (hgo (cvKey l r) s).1
      have h2 := grew_tell (go (cvKey l r) s).1 (lsFrom l r.p r.q r.t r.v + r.v) (lsFrom l r.p r.q r.t r.v + 2 * r.v) 7
      exact ⟨Int.le_trans h2.1 h1.1, by have := h2.2; simp only at this ⊢; omega⟩
theorem tag_grew (i : Nat) (s : CvS) : Grew 1 s (cvTag l r i s) := by
  unfold cvTag
  split
  · exact grew_tell _ _ _ _
  · exact (Grew.refl s).mono (by omega)
theorem len_grew (s : CvS) : Grew 1 s (cvLen l r s) := by
  unfold cvLen
  split
  · exact grew_tell _ _ _ _
  · exact (Grew.refl s).mono (by omega)
theorem elems_grew (hgo : Goes go) : ∀ (k i : Nat) (s : CvS), Grew 1 s (cvElems l go r k i s).1
  | 0, i, s => (Grew.refl s).mono (by omega)
  | k + 1, i, s => by
    unfold cvElems
    split
    · exact tag_grew r i s
    · have ht := tag_grew (l := l) r i s
      have hg := hgo (cvAt l r i) (cvTag l r i s)
      split
      · exact ht.trans hg.1
      · rename_i h
        have h := hg.2 (Decidable.of_not_not h)
        have he := elems_grew hgo k (i + 1) (go (cvAt l r i) (cvTag l r i s)).1
        exact ⟨Int.le_trans he.1 (Int.le_trans hg.1.1 ht.1), by have := he.2; have := ht.2; omega⟩
theorem head_grew (hgo : Goes go) (s : CvS) : Grew 0 s (cvHead l go r s).1 := by
  unfold cvHead
  split
  · exact keys_grew r hgo s
  · exact Grew.refl s
theorem list_grew (hgo : Goes go) (s : CvS) : Grew 2 s (cvList l go r s).1 := by
  unfold cvList
  split
  · exact (Grew.refl s).mono (by omega)
  · split
    · exact (head_grew r hgo s).mono (by omega)
    · exact ((head_grew r hgo s).trans (len_grew r _)).trans (elems_grew r hgo _ _ _)
theorem data_grew (hgo : Goes go) (s : CvS) : Grew 2 s (cvData l go r s).1 := by
  unfold cvData
  split
  · exact text_grew r s
  · split
    · exact apart_grew r s
    · exact list_grew r hgo s
end
theorem start_size (r : Rq) (s : CvS) (h : ¬ s.left < 1) : (cvStart r s).left ≤ s.left ∧ (cvStart r s).size + 7 ≤ s.size := by
  unfold cvStart
  have h1 := tell_size s.burn r.p (r.p + r.q) (cvOwn r.t)
  rw [tell_left]
  have e : s.burn.size + 8 = s.size := by unfold CvS.size CvS.burn; simp only; omega
  exact ⟨by unfold CvS.burn; simp only; omega, by omega⟩
theorem come_goes (l : List UInt8) : ∀ d, Goes (cvCome l d)
  | 0, r, s => ⟨Grew.refl s, fun h => by cases h⟩
  | d + 1, r, s => by
    unfold cvCome
    split
    · exact ⟨Grew.refl s, fun h => by cases h⟩
    · rename_i hl
      obtain ⟨h1, h2⟩ := start_size r s hl
      split
      · exact ⟨⟨h1, by simp only; omega⟩, fun _ => by simp only; omega⟩
      · split
        · exact ⟨⟨h1, by simp only; omega⟩, fun _ => by simp only; omega⟩
        · have hd := data_grew (l := l) r (come_goes l d) ((cvStart r s).see (cvSpot l r))
          have e1 : ((cvStart r s).see (cvSpot l r)).left = (cvStart r s).left := rfl
          have e2 : ((cvStart r s).see (cvSpot l r)).size = (cvStart r s).size := rfl
          rw [Grew, e1, e2] at hd
          exact ⟨⟨Int.le_trans hd.1 h1, by have := hd.2; omega⟩, fun _ => by have := hd.2; omega⟩
end Go.Proofs.YtejalfjeihlpeaaGreat
