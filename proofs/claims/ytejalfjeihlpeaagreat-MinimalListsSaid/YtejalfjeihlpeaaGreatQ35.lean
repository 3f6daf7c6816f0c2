/-
  Package minimal: comes.
-/
import Derived.Test.YtejalfjeihlpeaaGreatQ34
namespace Go.Proofs.YtejalfjeihlpeaaGreat
open Go.RowKit Go.Acc
attribute [local go_sem] Oper.semAt_some
theorem mspot_eq : ∀ (x y : Int × Int × Int) (W : World), (Op.equal 100 (spV x) (spV y)).run Tryz.prog W = .ok (decide (x = y)) W := by
  rintro ⟨a, b, c⟩ ⟨a', b', c'⟩ W
  by_cases h1 : a = a' <;> by_cases h2 : b = b' <;> by_cases h3 : c = c' <;> (simp only [spV]; (change (Op.equalIn 10000 _ _ _).run Tryz.prog W = _); go_simp)
theorem mspot_ck : ∀ (x : Int × Int × Int) (e : Bool) (W : World), (Instr.checkKey e 10000 100 (spV x)).run Tryz.prog W = .ok () W := by
  rintro ⟨a, b, c⟩ e W
  kernel_rfl
/-- The blocks that a look may write. -/
def MnS (E : MnE) (m : Nat) (k : Nat) : Prop := k = m ∨ k = E.bw
/-- The blocks lie apart. -/
structure MnA (E : MnE) (m : Nat) : Prop where
  a : ∀ ad, E.A = some ad → ¬ MnS E m ad.block
  m : m ≠ E.bw
/-- What comes reads. -/
structure ComW (E : MnE) (m : Nat) (had : List P3) (x p q t v : Int) (bX bR bS : Nat) (w : World) : Prop where
  k : LookB E m had x w
  x : Blk w bX 68 #[.pointer (some ⟨E.bw, 0, none⟩)]
  r : Blk w bR 48 #[.int .i64 p, .int .i64 q, .int .i64 t, .int .i64 v]
  s : Blk w bS 4 #[.bool false]
section
variable {E : MnE} {m : Nat} {had : List P3} {x p q t v : Int} {bX bR bS : Nat} {w w' : World}
theorem ComW.pure (h : ComW E m had x p q t v bX bR bS w) (hb : Below w.heap.size w w') : ComW E m had x p q t v bX bR bS w' := ⟨h.k.pure hb, h.x.pure hb, h.r.pure hb, h.s.pure hb⟩
theorem ComW.grown {row : Option Nat} {B : Nat} (h : ComW E m had x p q t v bX bR bS w) (hm : m < B) (hg : w.grownBy w' row) (hr : ∀ r, row = some r → B ≤ r ∧ ∃ o : Obj, w.heap[r]? = some o ∧ o.isCells = false) : ComW E m had x p q t v bX bR bS w' :=
  ⟨h.k.grown hm hg hr, kept_cell hg (fun r e => (hr r e).2) h.x, kept_cell hg (fun r e => (hr r e).2) h.r, kept_cell hg (fun r e => (hr r e).2) h.s⟩
theorem ComW.ix (h : ComW E m had x p q t v bX bR bS w) : bX ≠ E.bw := (h.x.ne_ h.k.k (by decide))
theorem blk_map {b m : Nat} {l : List P3} {t : TypeId} {cs : Array Value} (h : Blk w b t cs) (hm : MapS w m l) : b ≠ m := by
  rintro rfl
  obtain ⟨es, k, hb, _⟩ := hm
  unfold Blk at h
  rw [h] at hb
  cases hb
/-- Behind a step that writes the map and the look alone. -/
theorem ComW.step {had' : List P3} {x' : Int} (h : ComW E m had x p q t v bX bR bS w) (hk : LookB E m had' x' w') (hf : Fr (MnS E m) w w') : ComW E m had' x' p q t v bX bR bS w' :=
  ⟨hk, h.x.fr hf (fun hs => hs.elim (blk_map h.x h.k.h) (h.x.ne_ h.k.k (by decide))), h.r.fr hf (fun hs => hs.elim (blk_map h.r h.k.h) (h.r.ne_ h.k.k (by decide))), h.s.fr hf (fun hs => hs.elim (blk_map h.s h.k.h) (h.s.ne_ h.k.k (by decide)))⟩
/-- A spot is marked. -/
theorem LookB.see (h : LookB E m had x w) (hA : MnA E m) {y : P3} (hM : MapS w' m (had ++ [y])) (hf : Fr (fun k => k = m) w w') : LookB E m (had ++ [y]) x w' :=
  ⟨h.hc, h.hn, h.b.fr hf (fun ad e hs => hA.a ad e (.inl hs)), h.k.fr hf (Ne.symm hA.m), hM, fun ad e => Nat.lt_of_lt_of_le (h.la ad e) hf.size⟩
/-- The offset is noted. -/
theorem LookB.note (h : LookB E m had x w) (hA : MnA E m) (a : Int) : LookB E m had a (w.setCell ⟨E.bw, 2, none⟩ (.int .i64 a)) ∧ Fr (MnS E m) w (w.setCell ⟨E.bw, 2, none⟩ (.int .i64 a)) := by
  have hf : Fr (fun k => k = E.bw) w (w.setCell ⟨E.bw, 2, none⟩ (.int .i64 a)) := Fr.setCell (S := fun k => k = E.bw) (Fr.refl _ _) (fun _ => rfl) _
  exact ⟨⟨h.hc, h.hn, h.b.fr hf (fun ad e hs => hA.a ad e (.inr hs)), h.k.set_ 2 _, h.h.fr hf hA.m, fun ad e => Nat.lt_of_lt_of_le (h.la ad e) hf.size⟩, hf.mono fun _ _ h => .inr h⟩
/-- A block beyond the look's is written. -/
theorem LookB.far {n0 g : Nat} (h : LookB E m had x w) (hA : ∀ ad, E.A = some ad → ad.block < n0) (hm : m < n0) (hw : E.bw < n0) (hg : n0 ≤ g) (u : Value) : LookB E m had x (w.setCell ⟨g, 0, none⟩ u) := by
  have hf : Fr (fun k => k = g) w (w.setCell ⟨g, 0, none⟩ u) := Fr.setCell (S := fun k => k = g) (Fr.refl _ _) (fun _ => rfl) _
  exact ⟨h.hc, h.hn, h.b.fr hf (fun ad e hs => by have := hA ad e; omega), h.k.fr hf (by omega), h.h.fr hf (by omega), fun ad e => Nat.lt_of_lt_of_le (h.la ad e) hf.size⟩
theorem fr_far {S : Nat → Prop} {w0 : World} {n0 g : Nat} (h : Fr S w0 w) (hn : w0.heap.size = n0) (hg : n0 ≤ g) (u : Value) : Fr S w0 (w.setCell ⟨g, 0, none⟩ u) := h.setCell (p := ⟨g, 0, none⟩) (fun hl => by simp only at hl; omega) u
end
theorem mneach_snoc (go : Rq → List P3 → Option (Except Int (List P3))) (l : List UInt8) (r : Rq) : ∀ (is : List Nat) (i : Nat) (h h' : List P3), mnEach go l r is h = some (.ok h') → mnEach go l r (is ++ [i]) h = go (cvAt l r i) h'
  | [], i, h, h', e => by
    simp only [mnEach, Option.some.injEq, Except.ok.injEq] at e
    subst e
    rw [List.nil_append]
    unfold mnEach
    cases go (cvAt l r i) h with
    | none => rfl
    | some e => cases e <;> rfl
  | j :: is, i, h, h', e => by
    rw [List.cons_append]
    unfold mnEach at e ⊢
    cases hg : go (cvAt l r j) h with
    | none => rw [hg] at e; cases e
    | some u =>
      rw [hg] at e
      cases u with
      | error a => cases e
      | ok h1 => exact mneach_snoc go l r is i h1 h' e
theorem mneach_err (go : Rq → List P3 → Option (Except Int (List P3))) (l : List UInt8) (r : Rq) (a : Int) : ∀ (is js : List Nat) (h : List P3), mnEach go l r is h = some (.error a) → mnEach go l r (is ++ js) h = some (.error a)
  | [], js, h, e => by simp [mnEach] at e
  | j :: is, js, h, e => by
    rw [List.cons_append]
    unfold mnEach at e ⊢
    cases hg : go (cvAt l r j) h with
    | none => rw [hg] at e; cases e
    | some u =>
      rw [hg] at e
      cases u with
      | error b => exact e
      | ok h1 => exact mneach_err go l r a is js h1 e
theorem fr_put {S : Nat → Prop} {w W : World} {D : Nat} {o o' : Obj} (h : Fr S w W) (hD : w.heap.size ≤ D) (_ : W.heap[D]? = some o) : Fr S w (W.putObj D o') := by
  have hg := grownBy_putObj' W D o'
  exact ⟨hg.os.trans h.os, hg.tape.trans h.tape, hg.output.trans h.output, Nat.le_trans h.size hg.size, fun k hk hk2 => (hg.block k (Nat.lt_of_lt_of_le hk h.size) (fun e => by cases e; omega)).trans (h.block k hk hk2)⟩
theorem fin_vals (N : Nat) : (List.finRange N).map (·.val) = List.range N := List.ext_getElem (by simp) (by intros; simp)
theorem keepsFrom_fr {E : MnE} {m B : Nat} {W W' : World} (h : Fr (MnS E m) W W') (hm : m < B) (hw : E.bw < B) : KeepsFrom B W W' :=
  ⟨h.size, fun k _ hB hk _ => (h.block k (Array.getElem?_eq_some_iff.1 hk).1 (fun e => by rcases e with e | e <;> omega)).trans hk⟩
/-- What comes answers. -/
def ComO (E : MnE) (m : Nat) (x : Int) (w : World) (e : Ending) (w' : World) : Except Int (List P3) → Prop
  | .ok had => e = .returned (.bool true) ∧ LookB E m had x w' ∧ Fr (MnS E m) w w'
  | .error a => e = .returned (.bool false) ∧ (∃ had, LookB E m had a w') ∧ Fr (MnS E m) w w'
def ComAt (E : MnE) (m : Nat) (go : Rq → List P3 → Option (Except Int (List P3))) (Pd : List P3 → Prop) : Prop := ∀ (had : List P3) (x p q t v : Int) (res : Except Int (List P3)) (w : World), LookB E m had x w → MnOk ⟨p, q, t, v⟩ → Pd had → go ⟨p, q, t, v⟩ had = some res →
  Calls Tryz.prog 38 #[.pointer (some ⟨E.bw, 0, none⟩), .agg #[.int .i64 p, .int .i64 q, .int .i64 t, .int .i64 v]] w fun e w' => ComO E m x w e w' res
set_option maxRecDepth 100000 in
set_option maxHeartbeats 4000000 in
theorem comes_step (E : MnE) (m : Nat) (hAP : MnA E m) (d : Nat) (Pd Pd1 : List P3 → Prop) (IH : ComAt E m (mnGo E.l d) Pd) (hT : ∀ r h, MnOk r → Pd h → ∃ res, mnGo E.l d r h = some res ∧ ∀ h', res = .ok h' → Pd h') (hS : ∀ r had, MnOk r → inlineT r.t = false → Pd1 had → mnHere E.l r ∉ had → Pd (had ++ [mnHere E.l r])) : ComAt E m (mnGo E.l (d + 1)) Pd1 := by
  intro had x p q t v res w hL hok hP1 hgo
  have HTT := Lib.hid hT
  have HSP := Lib.hid (fun h1 h2 => hS ⟨p, q, t, v⟩ had hok h1 hP1 h2)
  clear hT hS hP1
  have hcc := hL.hc
  have hnn := hL.hn
  have HG := Lib.hid hgo
  have HOK := Lib.hid hok
  have HIH := Lib.hid IH
  have HAP := Lib.hid hAP
  refine callsIn_wide.1 (callsIn_of_wp_marks (n := 6) Tryz.func38 rfl trivial (wpIn_wide.2 ?_))
  simp only [Tryz.ntmps38, List.size_toArray, List.length_cons, List.length_nil, Nat.reduceAdd, Nat.reduceSub, Array.replicate_succ, Array.replicate_zero, List.push_toArray, List.append_toArray, List.nil_append, List.cons_append]
  have hBW : Below w.heap.size w ((((w.alloc (.cells #[.pointer (some ⟨E.bw, 0, none⟩)] 68)).alloc (.cells #[.int .i64 p, .int .i64 q, .int .i64 t, .int .i64 v] 48))).alloc (.cells #[.bool false] 4)) :=
    (((Below.refl _ _).alloc (Nat.le_refl _) _).alloc (by simp) _).alloc (by simp <;> omega) _
  have HI := Lib.hid (show ComW E m had x p q t v w.heap.size (w.heap.size + 1) (w.heap.size + 1 + 1) ((((w.alloc (.cells #[.pointer (some ⟨E.bw, 0, none⟩)] 68)).alloc (.cells #[.int .i64 p, .int .i64 q, .int .i64 t, .int .i64 v] 48))).alloc (.cells #[.bool false] 4)) from
    ⟨hL.pure hBW, ((Blk.new w _ _).alloc _).alloc _, (Blk.new_ (by simp) _ _).alloc _, Blk.new_ (by simp) _ _⟩)
  have HB := Lib.hid (Fr.of_below hBW (MnS E m))
  have HLA := Lib.hid hL.la
  have HLM := Lib.hid hL.h.lt
  have HLW := Lib.hid hL.k.lt
  clear hL hgo hok IH hBW hAP
  go_upto_region 1 with fail
  have HSL := Lib.hid (show w.heap.size ≤ w.heap.size + 1 + 1 by omega)
  generalize (((w.alloc (.cells #[.pointer (some ⟨E.bw, 0, none⟩)] 68)).alloc (.cells #[.int .i64 p, .int .i64 q, .int .i64 t, .int .i64 v] 48))).alloc (.cells #[.bool false] 4) = w1 at HI HB ⊢
  generalize w.heap.size + 1 + 1 = bS at HI HSL ⊢
  generalize w.heap.size + 1 = bR at HI ⊢
  obtain ⟨bX, hbx⟩ : ∃ x, w.heap.size = x := ⟨_, rfl⟩
  have HBX := Lib.hid hbx
  rw [hbx] at HI ⊢
  clear hbx
  have c0 : _ = some (Value.slice E.A E.n E.c) := HI.out.k.k.cell 0; have c1 : _ = some (Value.map (some m)) := HI.out.k.k.cell 1; have b0 : _ = some (Value.pointer (some ⟨E.bw, 0, none⟩)) := HI.out.x.cell 0; have x0 := cell0 HI.out.r; have x1 := cell1 HI.out.r; have x2 := cell2 HI.out.r; have x3 := cell3 HI.out.r
  go_wp2_with fail
  go_at_call 52
  obtain ⟨il, hil⟩ : ∃ b, inlineT t = b := ⟨_, rfl⟩
  refine (inline_is t il _ hil).mono ?_
  rintro e w2 ⟨rfl, hb⟩
  replace HB := Lib.hid (HB.out.trans (Fr.of_below hb (MnS E m)) fun _ _ h => h); replace HI := Lib.hid (HI.out.pure hb); clear c0 c1 b0 x0 x1 x2 x3; clear hb; have c0 : _ = some (Value.slice E.A E.n E.c) := HI.out.k.k.cell 0; have c1 : _ = some (Value.map (some m)) := HI.out.k.k.cell 1; have b0 : _ = some (Value.pointer (some ⟨E.bw, 0, none⟩)) := HI.out.x.cell 0; have x0 := cell0 HI.out.r; have x1 := cell1 HI.out.r; have x2 := cell2 HI.out.r; have x3 := cell3 HI.out.r
  cases il with
  | true =>
    have hres : res = .ok had := by
      have h := HG.out
      unfold mnGo at h
      rw [if_pos hil] at h
      injection h with h
      exact h.symm
    subst hres
    clear hil
    have s0 : _ = some (Value.bool false) := HI.out.s.cell 0; have s1 := HI.out.s.frozen 0; have HT := Lib.hid (HI.out.s.set_ 0 (.bool true)); have s2 : _ = some (Value.bool true) := HT.out.cell 0
    go_wp2_with fail
    refine ⟨.bool true, ?_, ?_⟩
    · simp [results, Tryz.f38, go_sem, s2]
    · exact ⟨rfl, HI.out.k.far HLA.out HLM.out HLW.out HSL.out _, fr_far HB.out rfl HSL.out _⟩
  | false =>
    obtain ⟨a, ha⟩ : ∃ a, tgt E.l p q t v = a := ⟨_, rfl⟩
    obtain ⟨er, her⟩ : ∃ a, tgtE E.l p q t v = a := ⟨_, rfl⟩
    have HA := Lib.hid ha
    have HER := Lib.hid her
    have HIL := Lib.hid hil
    clear ha her hil
    go_wp2_with fail
    go_region_held3 (fun w' => w'.cell? ⟨bX, 0, none⟩ = some (.pointer (some ⟨E.bw, 0, none⟩)) ∧ w'.cell? ⟨E.bw, 0, none⟩ = some (.slice E.A E.n E.c) ∧ (w'.cell? ⟨bR, 0, none⟩ = some (.int .i64 p) ∧ w'.cell? ⟨bR, 1, none⟩ = some (.int .i64 q) ∧ w'.cell? ⟨bR, 2, none⟩ = some (.int .i64 t) ∧ w'.cell? ⟨bR, 3, none⟩ = some (.int .i64 v))) (first | with_reducible exact ⟨b0, c0, x0, x1, x2, x3⟩ | with_reducible exact ⟨ldrew_ b0, ldrew_ c0, ldrew_ x0, ldrew_ x1, ldrew_ x2, ldrew_ x3⟩) (first | (go_at_call 53; (with_reducible refine (target_is E.A E.n E.c p q t v a er E.l _ HI.out.k.m.drew.b hcc (by omega) HA.out HER.out).mono ?_); rintro e w5 ⟨rfl, hb⟩; have hb2 := pure_trans (below_drew w2) hb; clear hb; replace HB := Lib.hid (HB.out.trans (Fr.of_below hb2 (MnS E m)) fun _ _ h => h); replace HI := Lib.hid (HI.out.pure hb2); clear c0 c1 b0 x0 x1 x2 x3; clear hb2; have c0 : _ = some (Value.slice E.A E.n E.c) := HI.out.k.k.cell 0; have c1 : _ = some (Value.map (some m)) := HI.out.k.k.cell 1; have b0 : _ = some (Value.pointer (some ⟨E.bw, 0, none⟩)) := HI.out.x.cell 0; have x0 := cell0 HI.out.r; have x1 := cell1 HI.out.r; have x2 := cell2 HI.out.r; have x3 := cell3 HI.out.r))
    go_upto_region 5 with fail
    have HY := Lib.hid (Blk.new w5 100 #[.int .i64 a, .int .i64 t, .int .i64 v])
    have hba : Below w5.heap.size w5 (w5.alloc (.cells #[.int .i64 a, .int .i64 t, .int .i64 v] 100)) := (Below.refl _ _).alloc (Nat.le_refl _) _
    replace HI := Lib.hid (HI.out.pure hba)
    replace HB := Lib.hid (HB.out.trans (Fr.of_below hba (MnS E m)) fun _ _ h => h)
    clear c0 c1 b0 x0 x1 x2 x3
    clear hba
    generalize w5.alloc (.cells #[.int .i64 a, .int .i64 t, .int .i64 v] 100) = w6 at HI HB HY ⊢
    generalize w5.heap.size = bY at HY ⊢
    have c0 : _ = some (Value.slice E.A E.n E.c) := HI.out.k.k.cell 0; have c1 : _ = some (Value.map (some m)) := HI.out.k.k.cell 1; have b0 : _ = some (Value.pointer (some ⟨E.bw, 0, none⟩)) := HI.out.x.cell 0; have x0 := cell0 HI.out.r; have x1 := cell1 HI.out.r; have x2 := cell2 HI.out.r; have x3 := cell3 HI.out.r
    have y0 : _ = some (Value.int .i64 a) := HY.out.cell 0
    have y1 : _ = some (Value.int .i64 t) := HY.out.cell 1
    have y2 : _ = some (Value.int .i64 v) := HY.out.cell 2
    have hun : mnGo E.l (d + 1) ⟨p, q, t, v⟩ had = if (a, t, v) ∈ had ∨ t = 4 then some (.ok had) else if 1 < v ∧ mnFits E.l ⟨p, q, t, v⟩ (v / 2) = true then some (.error a) else mnRest (mnGo E.l d) E.l ⟨p, q, t, v⟩ (had ++ [(a, t, v)]) := by
      unfold mnGo mnHere
      simp only [HA.out, HIL.out]
      rw [if_neg (by decide)]
    have HUN := Lib.hid (hun.symm.trans HG.out)
    clear hun
    by_cases hm : (a, t, v) ∈ had
    · have hlk : ∀ k, (Instr.lookup 69 (.map (some m)) (.agg #[.int .i64 a, .int .i64 t, .int .i64 v]) false).run Tryz.prog (w6.drewN k) = .ok (.bool true) (w6.drewN k) := by
        intro k
        have := run_lookS Tryz.underlying69 Tryz.underlying100 mspot_eq mspot_ck spot_zero m had (a, t, v) (w6.drewN k) (HI.out.k.pure (below_drewN (Below.refl _ _) k)).h
        rw [decide_eq_true hm] at this
        exact this
      have hres : res = .ok had := by
        have h := HUN.out
        rw [if_pos (.inl hm)] at h
        injection h with h
        exact h.symm
      subst hres
      clear hm
      go_quiet (fail)
      have HI7 := Lib.hid (HI.out.pure (below_drewN (Below.refl _ _) nq))
      have HB7 := Lib.hid (HB.out.drewN nq)
      generalize w6.drewN nq = w7 at HI7 HB7 ⊢
      clear HI HB hlk
      have HI := HI7
      have HB := HB7
      clear HI7 HB7
      have s0 : _ = some (Value.bool false) := HI.out.s.cell 0; have s1 := HI.out.s.frozen 0; have HT := Lib.hid (HI.out.s.set_ 0 (.bool true)); have s2 : _ = some (Value.bool true) := HT.out.cell 0
      go_wp2_with fail
      refine ⟨.bool true, ?_, ?_⟩
      · simp [results, Tryz.f38, go_sem, s2]
      · exact ⟨rfl, HI.out.k.far HLA.out HLM.out HLW.out HSL.out _, fr_far HB.out rfl HSL.out _⟩
    · have hlk : (Instr.lookup 69 (.map (some m)) (.agg #[.int .i64 a, .int .i64 t, .int .i64 v]) false).run Tryz.prog w6.drew = .ok (.bool false) w6.drew := by
        have := run_lookS Tryz.underlying69 Tryz.underlying100 mspot_eq mspot_ck spot_zero m had (a, t, v) w6.drew (HI.out.k.pure (below_drew _)).h
        rw [decide_eq_false hm] at this
        exact this
      by_cases h4 : t = 4
      · have hres : res = .ok had := by
          have h := HUN.out
          rw [if_pos (.inr h4)] at h
          injection h with h
          exact h.symm
        subst hres
        have e4 : (t == 4) = true := beq_iff_eq.2 h4
        clear hm h4
        go_region_held3 (fun w' => w'.cell? ⟨bX, 0, none⟩ = some (.pointer (some ⟨E.bw, 0, none⟩)) ∧ w'.cell? ⟨E.bw, 1, none⟩ = some (.map (some m)) ∧ w'.cell? ⟨bR, 2, none⟩ = some (.int .i64 t) ∧ (w'.cell? ⟨bY, 0, none⟩ = some (.int .i64 a) ∧ w'.cell? ⟨bY, 1, none⟩ = some (.int .i64 t) ∧ w'.cell? ⟨bY, 2, none⟩ = some (.int .i64 v))) (first | with_reducible exact ⟨b0, c1, x2, y0, y1, y2⟩ | with_reducible exact ⟨ldrew_ b0, ldrew_ c1, ldrew_ x2, ldrew_ y0, ldrew_ y1, ldrew_ y2⟩) (fail)
        have s0 : _ = some (Value.bool false) := HI.out.s.cell 0; have s1 := HI.out.s.frozen 0; have HT := Lib.hid (HI.out.s.set_ 0 (.bool true)); have s2 : _ = some (Value.bool true) := HT.out.cell 0
        have s3 : ((w6.setCell ⟨bS, 0, none⟩ (.bool true)).drew).cell? ⟨bS, 0, none⟩ = some (.bool true) := s2
        go_wp2_with fail
        refine ⟨.bool true, ?_, ?_⟩
        · simp [results, Tryz.f38, go_sem, s3]
        · exact ⟨rfl, (HI.out.k.far HLA.out HLM.out HLW.out HSL.out _).pure (below_drew _), (fr_far HB.out rfl HSL.out _).drew⟩
      · have e4 : (t == 4) = false := beq_eq_false_iff_ne.mpr h4
        obtain ⟨w7, hins, hM7, hf7, hsz7⟩ := run_insS Tryz.underlying69 Tryz.underlying100 mspot_eq mspot_ck m had (a, t, v) w6.drew.drew (HI.out.k.pure (pure_trans (below_drew _) (below_drew _))).h hm
        replace hins : (Instr.mapUpdate 69 (.map (some m)) (.agg #[.int .i64 a, .int .i64 t, .int .i64 v]) (.bool true)).run Tryz.prog w6.drew.drew = .ok () w7 := hins
        have HK7 := Lib.hid ((HI.out.k.pure (pure_trans (below_drew _) (below_drew _))).see HAP.out hM7 hf7)
        have hF7 : Fr (MnS E m) w6.drew.drew w7 := hf7.mono fun _ _ h => .inl h
        have HI7 := Lib.hid ((HI.out.pure (pure_trans (below_drew _) (below_drew _))).step HK7.out hF7)
        have HB7 := Lib.hid (HB.out.drew.drew.trans hF7 fun _ _ h => h)
        have HY7 := Lib.hid (HY.out.fr (Fr.trans (S := MnS E m) (Fr.of_below (pure_trans (below_drew _) (below_drew _)) _) hF7 fun _ _ h => h) (fun hs => hs.elim (blk_map HY.out HI.out.k.h) (HY.out.ne_ HI.out.k.k (by decide))))
        have d1 : _ = some (Value.map (some m)) := HK7.out.k.cell 1
        have d2 : _ = some (Value.pointer (some ⟨E.bw, 0, none⟩)) := HI7.out.x.cell 0
        have d3 := cell2 HI7.out.r
        have z0 : _ = some (Value.int .i64 a) := HY7.out.cell 0
        have z1 : _ = some (Value.int .i64 t) := HY7.out.cell 1
        have z2 : _ = some (Value.int .i64 v) := HY7.out.cell 2
        have hr := HUN.out
        rw [if_neg (by rintro (h | h); exact hm h; exact h4 h)] at hr
        have HR := Lib.hid hr
        have HT4 := Lib.hid h4
        have hpd : Pd (had ++ [(a, t, v)]) := by
          have h := HSP.out HIL.out (by unfold mnHere; simp only [HA.out]; exact hm)
          unfold mnHere at h
          simp only [HA.out] at h
          exact h
        have HPD := Lib.hid hpd
        clear hpd HSP
        clear hr hm hM7 hf7 hsz7 hF7 HUN HG h4
        go_region_held3 (fun w' => w'.cell? ⟨bX, 0, none⟩ = some (.pointer (some ⟨E.bw, 0, none⟩)) ∧ w'.cell? ⟨E.bw, 1, none⟩ = some (.map (some m)) ∧ w'.cell? ⟨bR, 2, none⟩ = some (.int .i64 t) ∧ (w'.cell? ⟨bY, 0, none⟩ = some (.int .i64 a) ∧ w'.cell? ⟨bY, 1, none⟩ = some (.int .i64 t) ∧ w'.cell? ⟨bY, 2, none⟩ = some (.int .i64 v))) (first | with_reducible exact ⟨b0, c1, x2, y0, y1, y2⟩ | with_reducible exact ⟨ldrew_ b0, ldrew_ c1, ldrew_ x2, ldrew_ y0, ldrew_ y1, ldrew_ y2⟩) (fail)
        go_wp2_with fail
        go_region_held3 (fun w' => w'.cell? ⟨bX, 0, none⟩ = some (.pointer (some ⟨E.bw, 0, none⟩)) ∧ w'.cell? ⟨E.bw, 1, none⟩ = some (.map (some m)) ∧ w'.cell? ⟨bR, 2, none⟩ = some (.int .i64 t) ∧ (w'.cell? ⟨bY, 0, none⟩ = some (.int .i64 a) ∧ w'.cell? ⟨bY, 1, none⟩ = some (.int .i64 t) ∧ w'.cell? ⟨bY, 2, none⟩ = some (.int .i64 v))) (first | with_reducible exact ⟨b0, c1, x2, y0, y1, y2⟩ | with_reducible exact ⟨ldrew_ b0, ldrew_ c1, ldrew_ x2, ldrew_ y0, ldrew_ y1, ldrew_ y2⟩ | with_reducible exact ⟨ldrew_ (ldrew_ b0), ldrew_ (ldrew_ c1), ldrew_ (ldrew_ x2), ldrew_ (ldrew_ y0), ldrew_ (ldrew_ y1), ldrew_ (ldrew_ y2)⟩ | with_reducible exact ⟨d2, d1, d3, z0, z1, z2⟩) (fail)
        clear hlk hins d1 d2 d3 z0 z1 z2 y0 y1 y2 HY HY7 HK7 e4
        clear c0 c1 b0 x0 x1 x2 x3
        clear HI HB
        have HI := HI7
        have HB := HB7
        clear HI7 HB7
        generalize had ++ [(a, t, v)] = had1 at HI HR HPD
        have c0 : _ = some (Value.slice E.A E.n E.c) := HI.out.k.k.cell 0; have c1 : _ = some (Value.map (some m)) := HI.out.k.k.cell 1; have b0 : _ = some (Value.pointer (some ⟨E.bw, 0, none⟩)) := HI.out.x.cell 0; have x0 := cell0 HI.out.r; have x1 := cell1 HI.out.r; have x2 := cell2 HI.out.r; have x3 := cell3 HI.out.r
        have hvw : isW v = true := HOK.out.elim (fun h => by have h2 := HIL.out; simp only at h; rw [h2] at h; cases h) (fun h => h.1)
        have HVW := Lib.hid hvw
        have hvv : 1 ≤ v ∧ v ≤ 8 := isw_le hvw
        clear hvw
        go_wp2_with fail
        obtain ⟨fs, hfs⟩ : ∃ b, mnFits E.l ⟨p, q, t, v⟩ (v / 2) = b := ⟨_, rfl⟩
        have HFS := Lib.hid hfs
        clear hfs
        go_cut [59] from 12 to 88 (fun u59 wx => ∃ wy, wy = wx ∧ u59 = .bool (decide (1 < v ∧ fs = true)) ∧ Below w7.heap.size w7 wx)
        case first =>
          by_cases hv1 : 1 < v
          · have hd1 : decide (1 < v) = true := decide_eq_true hv1
            have hdv : IntKind.i64.wrap (v.tdiv 2) = v / 2 := by rw [Int.tdiv_eq_ediv_of_nonneg (by omega)]; exact IntWalk.i64_in _ (by omega)
            have HSF := Lib.hid (show decide (1 < v ∧ fs = true) = fs by cases fs <;> simp [hv1])
            have HQ := Lib.hid (Below.refl w7.heap.size w7)
            clear HB
            have hf8 : 1 ≤ v / 2 ∧ v / 2 ≤ 8 := by omega
            have hf' := HFS.out
            unfold mnFits at hf'
            simp only at hf'
            by_cases h5 : t = 5 ∨ t = 25
            · have hmf : mnFn t = 106 := if_pos h5
              rw [if_pos h5] at hf'
              have HF' := Lib.hid hf'
              clear hf' h5
              have HFIT := Lib.hid (fun W : World => fits_is E t W)
              rw [hmf] at HFIT
              go_region_held3 (fun w' => w'.cell? ⟨bX, 0, none⟩ = some (.pointer (some ⟨E.bw, 0, none⟩)) ∧ w'.cell? ⟨E.bw, 0, none⟩ = some (.slice E.A E.n E.c) ∧ (w'.cell? ⟨bR, 0, none⟩ = some (.int .i64 p) ∧ w'.cell? ⟨bR, 1, none⟩ = some (.int .i64 q) ∧ w'.cell? ⟨bR, 2, none⟩ = some (.int .i64 t) ∧ w'.cell? ⟨bR, 3, none⟩ = some (.int .i64 v))) (first | with_reducible exact ⟨b0, c0, x0, x1, x2, x3⟩ | with_reducible exact ⟨ldrew_ b0, ldrew_ c0, ldrew_ x0, ldrew_ x1, ldrew_ x2, ldrew_ x3⟩) (first | (go_at_call 72; (with_reducible refine (HFIT.out _).mono ?_); rintro e w8 ⟨rfl, hb⟩; have hb2 := pure_trans (below_drew w7) hb; replace HQ := Lib.hid (pure_trans HQ.out hb2); replace HI := Lib.hid (HI.out.pure hb2); clear c0 c1 b0 x0 x1 x2 x3; clear hb hb2; have c0 : _ = some (Value.slice E.A E.n E.c) := HI.out.k.k.cell 0; have c1 : _ = some (Value.map (some m)) := HI.out.k.k.cell 1; have b0 : _ = some (Value.pointer (some ⟨E.bw, 0, none⟩)) := HI.out.x.cell 0; have x0 := cell0 HI.out.r; have x1 := cell1 HI.out.r; have x2 := cell2 HI.out.r; have x3 := cell3 HI.out.r) | (go_at_call 106; (with_reducible refine (mtext_is E p q t v (v / 2) fs _ HI.out.k.m HF'.out).mono ?_); rintro e w9 ⟨rfl, hb⟩; replace HQ := Lib.hid (pure_trans HQ.out hb); replace HI := Lib.hid (HI.out.pure hb); clear c0 c1 b0 x0 x1 x2 x3; clear hb; have c0 : _ = some (Value.slice E.A E.n E.c) := HI.out.k.k.cell 0; have c1 : _ = some (Value.map (some m)) := HI.out.k.k.cell 1; have b0 : _ = some (Value.pointer (some ⟨E.bw, 0, none⟩)) := HI.out.x.cell 0; have x0 := cell0 HI.out.r; have x1 := cell1 HI.out.r; have x2 := cell2 HI.out.r; have x3 := cell3 HI.out.r))
              go_wp2_with fail
              go_meet
              rw [HSF.out]
              exact ⟨_, rfl, rfl, HQ.out⟩
            by_cases h6 : t = 6
            · have hmf : mnFn t = 107 := by rw [h6]; rfl
              rw [if_neg h5, if_pos h6] at hf'
              have HF' := Lib.hid hf'
              clear hf' h5 h6
              have HFIT := Lib.hid (fun W : World => fits_is E t W)
              rw [hmf] at HFIT
              go_region_held3 (fun w' => w'.cell? ⟨bX, 0, none⟩ = some (.pointer (some ⟨E.bw, 0, none⟩)) ∧ w'.cell? ⟨E.bw, 0, none⟩ = some (.slice E.A E.n E.c) ∧ (w'.cell? ⟨bR, 0, none⟩ = some (.int .i64 p) ∧ w'.cell? ⟨bR, 1, none⟩ = some (.int .i64 q) ∧ w'.cell? ⟨bR, 2, none⟩ = some (.int .i64 t) ∧ w'.cell? ⟨bR, 3, none⟩ = some (.int .i64 v))) (first | with_reducible exact ⟨b0, c0, x0, x1, x2, x3⟩ | with_reducible exact ⟨ldrew_ b0, ldrew_ c0, ldrew_ x0, ldrew_ x1, ldrew_ x2, ldrew_ x3⟩) (first | (go_at_call 72; (with_reducible refine (HFIT.out _).mono ?_); rintro e w8 ⟨rfl, hb⟩; have hb2 := pure_trans (below_drew w7) hb; replace HQ := Lib.hid (pure_trans HQ.out hb2); replace HI := Lib.hid (HI.out.pure hb2); clear c0 c1 b0 x0 x1 x2 x3; clear hb hb2; have c0 : _ = some (Value.slice E.A E.n E.c) := HI.out.k.k.cell 0; have c1 : _ = some (Value.map (some m)) := HI.out.k.k.cell 1; have b0 : _ = some (Value.pointer (some ⟨E.bw, 0, none⟩)) := HI.out.x.cell 0; have x0 := cell0 HI.out.r; have x1 := cell1 HI.out.r; have x2 := cell2 HI.out.r; have x3 := cell3 HI.out.r) | (go_at_call 107; (with_reducible refine (mint_is E p q t v (v / 2) fs _ HI.out.k.m HF'.out).mono ?_); rintro e w9 ⟨rfl, hb⟩; replace HQ := Lib.hid (pure_trans HQ.out hb); replace HI := Lib.hid (HI.out.pure hb); clear c0 c1 b0 x0 x1 x2 x3; clear hb; have c0 : _ = some (Value.slice E.A E.n E.c) := HI.out.k.k.cell 0; have c1 : _ = some (Value.map (some m)) := HI.out.k.k.cell 1; have b0 : _ = some (Value.pointer (some ⟨E.bw, 0, none⟩)) := HI.out.x.cell 0; have x0 := cell0 HI.out.r; have x1 := cell1 HI.out.r; have x2 := cell2 HI.out.r; have x3 := cell3 HI.out.r))
              go_wp2_with fail
              go_meet
              rw [HSF.out]
              exact ⟨_, rfl, rfl, HQ.out⟩
            by_cases h7 : t = 7
            · have hmf : mnFn t = 108 := by rw [h7]; rfl
              rw [if_neg h5, if_neg h6, if_pos h7] at hf'
              have HF' := Lib.hid hf'
              clear hf' h5 h6 h7
              have HFIT := Lib.hid (fun W : World => fits_is E t W)
              rw [hmf] at HFIT
              go_region_held3 (fun w' => w'.cell? ⟨bX, 0, none⟩ = some (.pointer (some ⟨E.bw, 0, none⟩)) ∧ w'.cell? ⟨E.bw, 0, none⟩ = some (.slice E.A E.n E.c) ∧ (w'.cell? ⟨bR, 0, none⟩ = some (.int .i64 p) ∧ w'.cell? ⟨bR, 1, none⟩ = some (.int .i64 q) ∧ w'.cell? ⟨bR, 2, none⟩ = some (.int .i64 t) ∧ w'.cell? ⟨bR, 3, none⟩ = some (.int .i64 v))) (first | with_reducible exact ⟨b0, c0, x0, x1, x2, x3⟩ | with_reducible exact ⟨ldrew_ b0, ldrew_ c0, ldrew_ x0, ldrew_ x1, ldrew_ x2, ldrew_ x3⟩) (first | (go_at_call 72; (with_reducible refine (HFIT.out _).mono ?_); rintro e w8 ⟨rfl, hb⟩; have hb2 := pure_trans (below_drew w7) hb; replace HQ := Lib.hid (pure_trans HQ.out hb2); replace HI := Lib.hid (HI.out.pure hb2); clear c0 c1 b0 x0 x1 x2 x3; clear hb hb2; have c0 : _ = some (Value.slice E.A E.n E.c) := HI.out.k.k.cell 0; have c1 : _ = some (Value.map (some m)) := HI.out.k.k.cell 1; have b0 : _ = some (Value.pointer (some ⟨E.bw, 0, none⟩)) := HI.out.x.cell 0; have x0 := cell0 HI.out.r; have x1 := cell1 HI.out.r; have x2 := cell2 HI.out.r; have x3 := cell3 HI.out.r) | (go_at_call 108; (with_reducible refine (muint_is E p q t v (v / 2) fs _ HI.out.k.m HF'.out).mono ?_); rintro e w9 ⟨rfl, hb⟩; replace HQ := Lib.hid (pure_trans HQ.out hb); replace HI := Lib.hid (HI.out.pure hb); clear c0 c1 b0 x0 x1 x2 x3; clear hb; have c0 : _ = some (Value.slice E.A E.n E.c) := HI.out.k.k.cell 0; have c1 : _ = some (Value.map (some m)) := HI.out.k.k.cell 1; have b0 : _ = some (Value.pointer (some ⟨E.bw, 0, none⟩)) := HI.out.x.cell 0; have x0 := cell0 HI.out.r; have x1 := cell1 HI.out.r; have x2 := cell2 HI.out.r; have x3 := cell3 HI.out.r))
              go_wp2_with fail
              go_meet
              rw [HSF.out]
              exact ⟨_, rfl, rfl, HQ.out⟩
            have hmf : mnFn t = 109 := by unfold mnFn; rw [if_neg h5, if_neg h6, if_neg h7]
            rw [if_neg h5, if_neg h6, if_neg h7] at hf'
            have HF' := Lib.hid hf'
            clear hf' h5 h6 h7
            have HFIT := Lib.hid (fun W : World => fits_is E t W)
            rw [hmf] at HFIT
            go_region_held3 (fun w' => w'.cell? ⟨bX, 0, none⟩ = some (.pointer (some ⟨E.bw, 0, none⟩)) ∧ w'.cell? ⟨E.bw, 0, none⟩ = some (.slice E.A E.n E.c) ∧ (w'.cell? ⟨bR, 0, none⟩ = some (.int .i64 p) ∧ w'.cell? ⟨bR, 1, none⟩ = some (.int .i64 q) ∧ w'.cell? ⟨bR, 2, none⟩ = some (.int .i64 t) ∧ w'.cell? ⟨bR, 3, none⟩ = some (.int .i64 v))) (first | with_reducible exact ⟨b0, c0, x0, x1, x2, x3⟩ | with_reducible exact ⟨ldrew_ b0, ldrew_ c0, ldrew_ x0, ldrew_ x1, ldrew_ x2, ldrew_ x3⟩) (first | (go_at_call 72; (with_reducible refine (HFIT.out _).mono ?_); rintro e w8 ⟨rfl, hb⟩; have hb2 := pure_trans (below_drew w7) hb; replace HQ := Lib.hid (pure_trans HQ.out hb2); replace HI := Lib.hid (HI.out.pure hb2); clear c0 c1 b0 x0 x1 x2 x3; clear hb hb2; have c0 : _ = some (Value.slice E.A E.n E.c) := HI.out.k.k.cell 0; have c1 : _ = some (Value.map (some m)) := HI.out.k.k.cell 1; have b0 : _ = some (Value.pointer (some ⟨E.bw, 0, none⟩)) := HI.out.x.cell 0; have x0 := cell0 HI.out.r; have x1 := cell1 HI.out.r; have x2 := cell2 HI.out.r; have x3 := cell3 HI.out.r) | (go_at_call 109; (with_reducible refine (mlist_is E p q t v (v / 2) fs _ HI.out.k.m hvv hf8 HF'.out).mono ?_); rintro e w9 ⟨rfl, hb⟩; replace HQ := Lib.hid (pure_trans HQ.out hb); replace HI := Lib.hid (HI.out.pure hb); clear c0 c1 b0 x0 x1 x2 x3; clear hb; have c0 : _ = some (Value.slice E.A E.n E.c) := HI.out.k.k.cell 0; have c1 : _ = some (Value.map (some m)) := HI.out.k.k.cell 1; have b0 : _ = some (Value.pointer (some ⟨E.bw, 0, none⟩)) := HI.out.x.cell 0; have x0 := cell0 HI.out.r; have x1 := cell1 HI.out.r; have x2 := cell2 HI.out.r; have x3 := cell3 HI.out.r))
            go_wp2_with fail
            go_meet
            rw [HSF.out]
            exact ⟨_, rfl, rfl, HQ.out⟩
          · have hd1 : decide (1 < v) = false := decide_eq_false hv1
            have HSF := Lib.hid (show decide (1 < v ∧ fs = true) = false from decide_eq_false fun h => hv1 h.1)
            go_quiet (fail)
            go_wp2_with fail
            go_meet
            rw [HSF.out]
            exact ⟨_, rfl, rfl, below_drewN (Below.refl _ _) _⟩
        case rest =>
        obtain ⟨w8, rfl, rfl, hb⟩ := hcut
        replace HB := Lib.hid (HB.out.trans (Fr.of_below hb (MnS E m)) fun _ _ h => h); replace HI := Lib.hid (HI.out.pure hb); clear c0 c1 b0 x0 x1 x2 x3; clear hb; have c0 : _ = some (Value.slice E.A E.n E.c) := HI.out.k.k.cell 0; have c1 : _ = some (Value.map (some m)) := HI.out.k.k.cell 1; have b0 : _ = some (Value.pointer (some ⟨E.bw, 0, none⟩)) := HI.out.x.cell 0; have x0 := cell0 HI.out.r; have x1 := cell1 HI.out.r; have x2 := cell2 HI.out.r; have x3 := cell3 HI.out.r
        by_cases hc : 1 < v ∧ fs = true
        · have hd : decide (1 < v ∧ fs = true) = true := decide_eq_true hc
          rw [hd]
          have hres : res = .error a := by
            have h := HR.out
            rw [HFS.out, if_pos hc] at h
            injection h with h
            exact h.symm
          subst hres
          clear hc hd
          have w0 : _ = some (Value.int .i64 x) := HI.out.k.k.cell 2
          have w1 := HI.out.k.k.frozen 2
          have HN := Lib.hid (HI.out.k.note HAP.out a)
          have HI9 := Lib.hid (HI.out.step HN.out.1 HN.out.2)
          have HB9 := Lib.hid (HB.out.trans HN.out.2 fun _ _ h => h)
          have s0 : _ = some (Value.bool false) := HI9.out.s.cell 0
          have s1 := HI9.out.s.frozen 0
          have HT := Lib.hid (HI9.out.s.set_ 0 (.bool false))
          have s2 : _ = some (Value.bool false) := HT.out.cell 0
          go_wp2_with fail
          refine ⟨.bool false, ?_, ?_⟩
          · simp [results, Tryz.f38, go_sem, s2]
          · exact ⟨rfl, ⟨_, HI9.out.k.far HLA.out HLM.out HLW.out HSL.out _⟩, fr_far HB9.out rfl HSL.out _⟩
        · have hd : decide (1 < v ∧ fs = true) = false := decide_eq_false hc
          rw [hd]
          have hr := HR.out
          rw [HFS.out, if_neg hc] at hr
          replace HR := Lib.hid hr
          clear hr hc hd
          clear HFS
          go_upto_if 66 with fail
          go_cut [8, 9] from 12 to 88 (fun _ _ wx => ∃ wy, wy = wx ∧ ∃ h2, Pd h2 ∧ LookB E m h2 x wx ∧ Fr (MnS E m) w8 wx ∧ mnEach (mnGo E.l d) E.l ⟨p, q, t, v⟩ (List.range (lsLen E.l p q t v)) h2 = some res)
          case first =>
            by_cases h9 : t = 9
            · have e9 : (t == 9) = true := beq_iff_eq.2 h9
              obtain ⟨kp, hk1⟩ : ∃ a, kyP E.l p q t v = a := ⟨_, rfl⟩
              obtain ⟨kq, hk2⟩ : ∃ a, kyQ E.l p q t v = a := ⟨_, rfl⟩
              obtain ⟨kt, hk3⟩ : ∃ a, kyT E.l p q t v = a := ⟨_, rfl⟩
              obtain ⟨kv, hk4⟩ : ∃ a, kyV E.l p q t v = a := ⟨_, rfl⟩
              obtain ⟨ke, hk5⟩ : ∃ a, kyE E.l p q t v = a := ⟨_, rfl⟩
              have hkey : cvKey E.l ⟨p, q, t, v⟩ = ⟨kp, kq, kt, kv⟩ := by unfold cvKey; simp only [hk1, hk2, hk3, hk4]
              have hkok : MnOk ⟨kp, kq, kt, kv⟩ := hkey ▸ mnok_key E.l ⟨p, q, t, v⟩
              have hr := HR.out
              unfold mnRest at hr
              rw [if_pos h9, hkey] at hr
              have HP := Lib.hid hk1
              have HQQ := Lib.hid hk2
              have HT := Lib.hid hk3
              have HV := Lib.hid hk4
              have HKE := Lib.hid hk5
              have HKOK := Lib.hid hkok
              replace HR := Lib.hid hr
              clear hk1 hk2 hk3 hk4 hk5 hkey hkok hr h9
              go_upto_region 12 with fail
              go_cut [8, 9] from 12 to 88 (fun u7 u8 wx => ∃ wy, wy = wx ∧ u8 = .int .i64 ke ∧ ∃ g, u7 = .pointer (some ⟨g, 0, none⟩) ∧ Blk wx g 48 #[.int .i64 kp, .int .i64 kq, .int .i64 kt, .int .i64 kv] ∧ Below w8.heap.size w8 wx)
              case first =>
                have HQ := Lib.hid (Below.refl w8.heap.size w8)
                have HX0 := Lib.hid HI.out
                have HB0 := Lib.hid (show w8.cell? ⟨bX, 0, none⟩ = some (.pointer (some ⟨E.bw, 0, none⟩)) from HI.out.x.cell 0)
                have hn1 : E.bw ≠ w8.heap.size := by have := HI.out.k.k.lt; omega
                have hn2 : bR ≠ w8.heap.size := by have := HI.out.r.lt; omega
                have hn3 : bX ≠ w8.heap.size := by have := HI.out.x.lt; omega
                clear HI HB c1
                go_region_held3 (fun w' => w'.cell? ⟨bX, 0, none⟩ = some (.pointer (some ⟨E.bw, 0, none⟩)) ∧ w'.cell? ⟨E.bw, 0, none⟩ = some (.slice E.A E.n E.c) ∧ (w'.cell? ⟨bR, 0, none⟩ = some (.int .i64 p) ∧ w'.cell? ⟨bR, 1, none⟩ = some (.int .i64 q) ∧ w'.cell? ⟨bR, 2, none⟩ = some (.int .i64 t) ∧ w'.cell? ⟨bR, 3, none⟩ = some (.int .i64 v))) ((with_reducible refine ⟨?_, ?_, ?_, ?_, ?_, ?_⟩) <;> (repeat (first | with_reducible assumption | with_reducible refine ldrew ?_ | with_reducible refine lalloc _ ?_ | with_reducible refine lsetA ?_ ?_)))
                  (first | (go_at_call 73; (first | (with_reducible refine (fkeys_is E.A E.n E.c p q t v kp kq kt kv ke E.l _ (HX0.out.k.b.pure HQ.out.drew) hcc (by omega) HP.out HQQ.out HT.out HV.out HKE.out).mono ?_) | (with_reducible refine (fkeys_is E.A E.n E.c p q t v kp kq kt kv ke E.l _ (HX0.out.k.b.pure (HQ.out.alloc HQ.out.size _).drew) hcc (by omega) HP.out HQQ.out HT.out HV.out HKE.out).mono ?_)); rintro e w9 ⟨rfl, hb⟩; (first | (with_reducible replace HQ := Lib.hid (pure_below HQ.out.drew hb)) | ((with_reducible have HK := Lib.hid ((Blk.new w8 48 #[.int .i64 0, .int .i64 0, .int .i64 0, .int .i64 0]).drew.pure hb)); (with_reducible replace HQ := Lib.hid (pure_below (HQ.out.alloc HQ.out.size _).drew hb)); have q0 := cell0 HK.out; have q1 := cell1 HK.out; have q2 := cell2 HK.out; have q3 := cell3 HK.out; have p0 := HK.out.frozen 0; have p1 := HK.out.frozen 1; have p2 := HK.out.frozen 2; have p3 := HK.out.frozen 3)); replace b0 := cell_pure HQ.out HB0.out; replace c0 := cell_pure HQ.out HX0.out.k.m.c0; replace x0 := cell_pure HQ.out (cell0 HX0.out.r); replace x1 := cell_pure HQ.out (cell1 HX0.out.r); replace x2 := cell_pure HQ.out (cell2 HX0.out.r); replace x3 := cell_pure HQ.out (cell3 HX0.out.r); have hn4 : E.bw ≠ w9.heap.size := (by have := lt_of_cell c0; simp only at this; omega); have hn5 : bR ≠ w9.heap.size := (by have := lt_of_cell x0; simp only at this; omega); have hn6 : bX ≠ w9.heap.size := (by have := lt_of_cell b0; simp only at this; omega); clear hb))
                all_goals
                  go_wp2_with fail
                  go_meet
                  first
                    | with_reducible exact ⟨_, rfl, rfl, _, rfl, Blk.new _ _ _, HQ.out.alloc HQ.out.size _⟩
                    | exact ⟨_, rfl, rfl, _, rfl, (((HK.out.set_ 0 _).set_ 1 _).set_ 2 _).set_ 3 _, below_set4 _ HQ.out (Nat.le_refl _) _ _ _ _⟩
              case rest =>
              obtain ⟨w9, rfl, rfl, g, rfl, hK, hb⟩ := hcut
              have k0 := cell0 hK
              have k1 := cell1 hK
              have k2 := cell2 hK
              have k3 := cell3 hK
              have HQ := Lib.hid hb
              replace HB := Lib.hid (HB.out.trans (Fr.of_below hb (MnS E m)) fun _ _ h => h); replace HI := Lib.hid (HI.out.pure hb); clear c0 c1 b0 x0 x1 x2 x3; clear hb; have c0 : _ = some (Value.slice E.A E.n E.c) := HI.out.k.k.cell 0; have c1 : _ = some (Value.map (some m)) := HI.out.k.k.cell 1; have b0 : _ = some (Value.pointer (some ⟨E.bw, 0, none⟩)) := HI.out.x.cell 0; have x0 := cell0 HI.out.r; have x1 := cell1 HI.out.r; have x2 := cell2 HI.out.r; have x3 := cell3 HI.out.r
              clear hK
              cases hg : mnGo E.l d ⟨kp, kq, kt, kv⟩ had1 with
              | none =>
                have h := HR.out
                rw [hg] at h
                cases h
              | some r1 =>
                have hr := HR.out
                rw [hg] at hr
                have HC := Lib.hid (HIH.out had1 x kp kq kt kv r1 w9 HI.out.k HKOK.out HPD.out hg)
                have HPR := Lib.hid (show ∀ h', r1 = .ok h' → Pd h' from by obtain ⟨r2, h1, h2⟩ := HTT.out _ _ HKOK.out HPD.out; rw [hg] at h1; injection h1 with h1; rw [h1]; exact h2)
                replace HR := Lib.hid hr
                clear hr hg
                go_wp2_with fail
                go_at_call 38
                refine HC.out.mono ?_
                clear k0 k1 k2 k3
                cases r1 with
                | error a1 =>
                  rintro e w10 ⟨rfl, ⟨hd1, hL⟩, hF⟩
                  have hres : res = .error a1 := by
                    have h := HR.out
                    injection h with h
                    exact h.symm
                  subst hres
                  have HI9 := Lib.hid (HI.out.step hL hF)
                  have HB9 := Lib.hid (HB.out.trans hF fun _ _ h => h)
                  clear c0 c1 b0 x0 x1 x2 x3
                  clear hL hF
                  have s0 : _ = some (Value.bool false) := HI9.out.s.cell 0
                  have s1 := HI9.out.s.frozen 0
                  have HT := Lib.hid (HI9.out.s.set_ 0 (.bool false))
                  have s2 : _ = some (Value.bool false) := HT.out.cell 0
                  go_wp2_with fail
                  refine ⟨.bool false, ?_, ?_⟩
                  · simp [results, Tryz.f38, go_sem, s2]
                  · exact ⟨rfl, ⟨_, HI9.out.k.far HLA.out HLM.out HLW.out HSL.out _⟩, fr_far HB9.out rfl HSL.out _⟩
                | ok h2 =>
                  rintro e w10 ⟨rfl, hL, hF⟩
                  have HO := Lib.hid (show ∃ h2, Pd h2 ∧ LookB E m h2 x w10 ∧ Fr (MnS E m) w8 w10 ∧ mnEach (mnGo E.l d) E.l ⟨p, q, t, v⟩ (List.range (lsLen E.l p q t v)) h2 = some res from ⟨h2, HPR.out _ rfl, hL, (Fr.of_below HQ.out _).trans hF fun _ _ h => h, HR.out⟩)
                  clear hL hF HR HI HB HC
                  clear c0 c1 b0 x0 x1 x2 x3
                  go_wp2_with fail
                  go_meet
                  exact ⟨_, rfl, HO.out⟩
            · have e9 : (t == 9) = false := beq_eq_false_iff_ne.mpr h9
              have hr := HR.out
              unfold mnRest at hr
              rw [if_neg h9] at hr
              replace HR := Lib.hid hr
              clear hr h9
              go_wp2_with fail
              go_meet
              exact ⟨_, rfl, _, HPD.out, HI.out.k, Fr.refl _ _, HR.out⟩
          case rest =>
          obtain ⟨w9, rfl, h2, hP9, hL9, hF9, hr⟩ := hcut
          have HP9 := Lib.hid hP9
          replace HR := Lib.hid hr
          replace HI := Lib.hid (HI.out.step hL9 hF9)
          replace HB := Lib.hid (HB.out.trans hF9 fun _ _ h => h)
          clear c0 c1 b0 x0 x1 x2 x3
          clear hL9 hF9 hr hP9 HPD
          have c0 : _ = some (Value.slice E.A E.n E.c) := HI.out.k.k.cell 0; have c1 : _ = some (Value.map (some m)) := HI.out.k.k.cell 1; have b0 : _ = some (Value.pointer (some ⟨E.bw, 0, none⟩)) := HI.out.x.cell 0; have x0 := cell0 HI.out.r; have x1 := cell1 HI.out.r; have x2 := cell2 HI.out.r; have x3 := cell3 HI.out.r
          go_wp2_with (go_at_call 74; (with_reducible refine (elems_spec E p q t v _).mono ?_); rintro e w10 ⟨rfl, rfl⟩)
          have hBA : ∀ o, Below w9.heap.size w9 (w9.alloc o) := fun o => (Below.refl _ _).alloc (Nat.le_refl _) o
          have hb8 : Below w9.heap.size w9 ((w9.alloc (.cells #[.pointer (some ⟨E.bw, 0, none⟩)] 68)).alloc (.cells #[.int .i64 p, .int .i64 q, .int .i64 t, .int .i64 v] 48)) := (hBA _).alloc (hBA _).size _
          replace HI := Lib.hid (HI.out.pure hb8)
          replace HB := Lib.hid (HB.out.trans (Fr.of_below hb8 (MnS E m)) fun _ _ h => h)
          have HIT := Lib.hid (show ItF E p q t v w9.heap.size (w9.heap.size + 1) ((w9.alloc (.cells #[.pointer (some ⟨E.bw, 0, none⟩)] 68)).alloc (.cells #[.int .i64 p, .int .i64 q, .int .i64 t, .int .i64 v] 48)) from
            ⟨HI.out.k.m, (Blk.new w9 _ _).alloc _, Blk.new_ (by simp) _ _⟩)
          clear c0 c1 b0 x0 x1 x2 x3
          clear hBA hb8
          generalize w9.heap.size = bx at HIT ⊢
          generalize (w9.alloc (.cells #[.pointer (some ⟨E.bw, 0, none⟩)] 68)).alloc (.cells #[.int .i64 p, .int .i64 q, .int .i64 t, .int .i64 v] 48) = wl at HI HB HIT ⊢
          obtain ⟨N, hN⟩ : ∃ N, lsLen E.l p q t v = N := ⟨_, rfl⟩
          have HN := Lib.hid hN
          clear hN
          have HML := Lib.hid HI.out.k.h.lt
          have HWL := Lib.hid HI.out.k.k.lt
          refine (wpIn_wide (n := 6)).1 ?_
          refine wpin_act fun a0 ha0 => ?_
          refine wpIn_rangeFunc_ownH rfl (by omega) (gf := 110) (lb := #[.pointer (some ⟨bx, 0, none⟩), .pointer (some ⟨bx + 1, 0, none⟩)]) (by rw [ha0]; rfl) trivial (enters_of Tryz.func110 (by kernel_rfl) rfl)
            (elems1_stops E p q t v bx (bx + 1) N wl HN.out HIT.out (6 - 1) (by omega)) itk_t itk_b (Below.refl _ _) (fun _ => rfl)
            (fun pre W => ∃ h, mnEach (mnGo E.l d) E.l ⟨p, q, t, v⟩ (pre.map (·.val)) h2 = some (.ok h) ∧ Pd h ∧ ComW E m h x p q t v bX bR bS W ∧ Fr (MnS E m) w W)
            (fun c pre W => c = .ret ∧ ∃ a h, mnEach (mnGo E.l d) E.l ⟨p, q, t, v⟩ (pre.map (·.val)) h2 = some (.error a) ∧ LookB E m h a W ∧ Blk W bS 4 #[.bool false] ∧ Fr (MnS E m) w W)
            (fun s A B row hs hg hr => by
              obtain ⟨h, h1, h2', h3, h4⟩ := hs
              exact ⟨h, h1, h2', h3.grown HML.out hg hr, ⟨hg.os.trans h4.os, hg.tape.trans h4.tape, hg.output.trans h4.output, Nat.le_trans h4.size hg.size, fun k hk hk2 => (hg.block k (Nat.lt_of_lt_of_le hk h4.size) (fun e => by have := (hr k e.symm).1; have := HB.out.size; omega)).trans (h4.block k hk hk2)⟩⟩)
            (fun c s A B row hs hg hr => by
              obtain ⟨h0, a, h, h1, h2', h3, h4⟩ := hs
              exact ⟨h0, a, h, h1, h2'.grown HML.out hg hr, kept_cell hg (fun r e => (hr r e).2) h3, ⟨hg.os.trans h4.os, hg.tape.trans h4.tape, hg.output.trans h4.output, Nat.le_trans h4.size hg.size, fun k hk hk2 => (hg.block k (Nat.lt_of_lt_of_le hk h4.size) (fun e => by have := (hr k e.symm).1; have := HB.out.size; omega)).trans (h4.block k hk hk2)⟩⟩)
            ⟨h2, rfl, HP9.out, HI.out, HB.out⟩
            (fun y a' W => ∃ Bx, Blk W Bx 48 #[.int .i64 (cvAt E.l ⟨p, q, t, v⟩ y.val).p, .int .i64 (cvAt E.l ⟨p, q, t, v⟩ y.val).q, .int .i64 (cvAt E.l ⟨p, q, t, v⟩ y.val).t, .int .i64 (cvAt E.l ⟨p, q, t, v⟩ y.val).v] ∧
              a' = { tmps := ((a0.tmps.setIfInBounds 83 (.int .i64 (y.val : Int))).setIfInBounds 84 (.agg #[.int .i64 (cvAt E.l ⟨p, q, t, v⟩ y.val).p, .int .i64 (cvAt E.l ⟨p, q, t, v⟩ y.val).q, .int .i64 (cvAt E.l ⟨p, q, t, v⟩ y.val).t, .int .i64 (cvAt E.l ⟨p, q, t, v⟩ y.val).v])).setIfInBounds 11 (.pointer (some ⟨Bx, 0, none⟩)), defers := [] })
            (fun y a' _ A B row hs hg hr => by obtain ⟨Bx, hb, e⟩ := hs; exact ⟨Bx, kept_cell hg (fun r e => (hr r e).2) hb, e⟩)
            ?assign ?body ?done ?stop
          case assign =>
            rintro l pre y W K ⟨h, h1, h3, h4, h5⟩ hK
            have HQ := Lib.hid hK
            have HH := Lib.hid (And.intro h1 h3)
            clear hK h1 h3 HR HI HB HIT HTT HIH
            subst ha0
            simp only [encE]
            gi_wp2
            refine HQ.out _ _ ((KeepsOthers.alloc _ _).from _) (fun h => h.pure ((Below.refl _ _).alloc (Nat.le_refl _) _)) ⟨h, HH.out.1, HH.out.2, h4.pure ((Below.refl _ _).alloc (Nat.le_refl _) _), h5.alloc _⟩ ⟨W.heap.size, Blk.new _ _ _, ?_⟩
            rfl
          case body =>
            rintro l pre y a' W hl ⟨rr, hrr⟩ ⟨h, h1, h3, h4, h5⟩ ⟨Bx, hbx, rfl⟩ hlt
            have hok := mnok_at E.l ⟨p, q, t, v⟩ HVW.out y.val
            obtain ⟨⟨kp, kq, kt, kv⟩, hcv⟩ : ∃ c, cvAt E.l ⟨p, q, t, v⟩ y.val = c := ⟨_, rfl⟩
            rw [hcv] at hok hbx ⊢
            simp only at hbx ⊢
            obtain ⟨r1, hgo, hPr⟩ := HTT.out _ h hok h3
            have hsn := (mneach_snoc (mnGo E.l d) E.l ⟨p, q, t, v⟩ _ y.val h2 h h1)
            rw [hcv, hgo] at hsn
            have HSN := Lib.hid (show mnEach (mnGo E.l d) E.l ⟨p, q, t, v⟩ ((pre ++ [y]).map (·.val)) h2 = some r1 by rw [List.map_append]; exact hsn)
            have HCA := Lib.hid (HIH.out h x _ _ _ _ r1 W h4.k hok h3 hgo)
            have HPR := Lib.hid hPr
            have H4 := Lib.hid h4
            have H5 := Lib.hid h5
            have b0 : W.cell? ⟨bX, 0, none⟩ = some (.pointer (some ⟨E.bw, 0, none⟩)) := h4.x.cell 0
            have k0 := cell0 hbx
            have k1 := cell1 hbx
            have k2 := cell2 hbx
            have k3 := cell3 hbx
            clear hcv hok hgo hsn hPr h4 h5 h1 h3 hbx HR HI HB HIT HIH HTT
            subst ha0
            gi_wp2
            refine ⟨trivial, (CallsIn.inRound l (callsIn_wide.2 HCA.out)).mono ?_⟩
            clear b0 k0 k1 k2 k3
            cases r1 with
            | error a1 =>
              rintro e W3 ⟨rfl, ⟨hd, hL⟩, hF⟩
              have HS := Lib.hid (H4.out.step hL hF).s
              have HL := Lib.hid hL
              have HF := Lib.hid hF
              clear hL hF
              have s0 : _ = some (Value.bool false) := HS.out.cell 0
              have s1 := HS.out.frozen 0
              gi_wp2
              exact ⟨(keepsFrom_fr HF.out HML.out HWL.out).trans ((KeepsOthers.setCell _ _ _).from _), ⟨rfl, a1, _, HSN.out, HL.out.far HLA.out HLM.out HLW.out HSL.out _, HS.out.set_ 0 _, fr_far (H5.out.trans HF.out fun _ _ h => h) rfl HSL.out _⟩⟩
            | ok h' =>
              rintro e W3 ⟨rfl, hL, hF⟩
              have HL := Lib.hid hL
              have HF := Lib.hid hF
              clear hL hF
              gi_wp2
              exact ⟨keepsFrom_fr HF.out HML.out HWL.out, fun hi => ⟨HL.out.m, hi.x.fr HF.out (fun hs => hs.elim (blk_map hi.x H4.out.k.h) (hi.x.ne_ H4.out.k.k (by decide))), hi.r.fr HF.out (fun hs => hs.elim (blk_map hi.r H4.out.k.h) (hi.r.ne_ H4.out.k.k (by decide)))⟩, ⟨h', HSN.out, HPR.out _ rfl, H4.out.step HL.out HF.out, H5.out.trans HF.out fun _ _ h => h⟩⟩
          case done =>
            rintro D ys W hD rfl ⟨h, h1, h3, h4, h5⟩ hK
            have hres : res = .ok h := by
              have e1 := HR.out
              rw [HN.out, ← fin_vals, h1] at e1
              injection e1 with e1
              exact e1.symm
            subst hres
            have HL := Lib.hid h4
            have HF := Lib.hid h5
            have HD := Lib.hid (Nat.le_trans HB.out.size hD)
            have HMD := Lib.hid (Nat.lt_of_lt_of_le HLM.out (Nat.le_trans HB.out.size hD))
            clear h1 h3 h4 h5 HR HI HB HIT HTT HIH
            subst ha0
            have s0 : W.cell? ⟨bS, 0, none⟩ = some (.bool false) := HL.out.s.cell 0
            have s1 := HL.out.s.frozen 0
            have HS2 := Lib.hid (HL.out.s.set_ 0 (.bool true))
            have hK' := (KeepsOthers.setCell W ⟨bS, 0, none⟩ (.bool true)).same D _ hK rfl
            go_wp2_with fail
            refine ⟨by simp, .inl ⟨_, _, rfl, run_takeDeferred hK', ?_⟩⟩
            have hc5 := kept_cell (grownBy_putObj' _ D (.deferred none)) (fun r e => by cases e; exact ⟨_, hK', rfl⟩) HS2.out
            have hc6 : _ = some (Value.bool true) := hc5.cell 0
            refine ⟨.bool true, ?_, ?_⟩
            · simp [results, Tryz.f38, go_sem, hc6]
            · exact ⟨rfl, (HL.out.k.far HLA.out HLM.out HLW.out HSL.out _).grown HMD.out (grownBy_putObj' _ D (.deferred none)) (fun r e => by cases e; exact ⟨Nat.le_refl _, _, hK', rfl⟩), fr_put (fr_far HF.out rfl HSL.out _) HD.out hK'⟩
          case stop =>
            rintro D c pre W hD hpre ⟨rfl, a1, h, h1, h3, h4, h5⟩ hK
            have hres : res = .error a1 := by
              obtain ⟨js, hjs⟩ := hpre
              have e1 := HR.out
              rw [HN.out, ← fin_vals, ← hjs, List.map_append, mneach_err _ _ _ _ _ _ _ h1] at e1
              injection e1 with e1
              exact e1.symm
            subst hres
            have HL := Lib.hid h3
            have HS := Lib.hid h4
            have HF := Lib.hid h5
            have HD := Lib.hid (Nat.le_trans HB.out.size hD)
            have HMD := Lib.hid (Nat.lt_of_lt_of_le HLM.out (Nat.le_trans HB.out.size hD))
            clear h1 h3 h4 h5 HR HI HB HIT HTT HIH
            subst ha0
            gi_wp2
            refine ⟨by simp, .inl ⟨_, _, rfl, run_takeDeferred hK, ?_⟩⟩
            have hc5 := kept_cell (grownBy_putObj' W D (.deferred none)) (fun r e => by cases e; exact ⟨_, hK, rfl⟩) HS.out
            have hc6 : _ = some (Value.bool false) := hc5.cell 0
            refine ⟨.bool false, ?_, ?_⟩
            · simp [results, Tryz.f38, go_sem, hc6]
            · exact ⟨rfl, ⟨_, HL.out.grown HMD.out (grownBy_putObj' _ D (.deferred none)) (fun r e => by cases e; exact ⟨Nat.le_refl _, _, hK, rfl⟩)⟩, fr_put HF.out HD.out hK⟩
end Go.Proofs.YtejalfjeihlpeaaGreat
