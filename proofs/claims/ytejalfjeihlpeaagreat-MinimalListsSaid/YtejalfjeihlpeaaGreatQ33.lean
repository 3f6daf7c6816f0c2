/-
  Package minimal: whether a vector or a map fits a width.
-/
import Derived.Test.YtejalfjeihlpeaaGreatQ32
namespace Go.Proofs.YtejalfjeihlpeaaGreat
open Go.RowKit Go.Acc
attribute [local go_sem] Oper.semAt_some
def mnAhead (l : List UInt8) (r : Rq) : Int := ((lsAt l r.p r.q r.t r.v : Int) - lsFrom l r.p r.q r.t r.v) / r.v
def mnElem (l : List UInt8) (r : Rq) (f : Int) (i : Nat) : Bool := mnStands l (cvAt l r i).p (cvAt l r i).q (cvAt l r i).t (cvAt l r i).v (lsFrom l r.p r.q r.t r.v + (mnAhead l r + i) * f) f
def mnList (l : List UInt8) (r : Rq) (f : Int) : Bool :=
  if 0 < mnAhead l r ∧ f < wdU (lsLen l r.p r.q r.t r.v) then false
  else if mnAhead l r = 3 ∧ mnStands l (cvKey l r).p (cvKey l r).q (cvKey l r).t (cvKey l r).v (lsFrom l r.p r.q r.t r.v) f = false then false
  else (List.range (lsLen l r.p r.q r.t r.v)).all (mnElem l r f)
/-- What a call of list reads. -/
structure LkW (E : MnE) (p q t v f : Int) (bX bR bF : Nat) (w : World) : Prop where
  i : ItF E p q t v bX bR w
  f : Blk w bF 3 #[.int .i64 f]
theorem LkW.pure {E : MnE} {p q t v f : Int} {bX bR bF : Nat} {w w' : World} (h : LkW E p q t v f bX bR bF w) (hb : Below w.heap.size w w') : LkW E p q t v f bX bR bF w' := ⟨h.i.pure hb, h.f.pure hb⟩
theorem kept_cell {W W' : World} {row : Option Nat} (hg : W.grownBy W' row) (hr : ∀ r, row = some r → ∃ o : Obj, W.heap[r]? = some o ∧ o.isCells = false) {g : Nat} {t : TypeId} {cs : Array Value} (h : Blk W g t cs) : Blk W' g t cs := (grownBy_keeps_cells hg hr h rfl).trans h
theorem MnB.kept {E : MnE} {W W' : World} {row : Option Nat} (h : MnB E W) (hg : W.grownBy W' row) (hr : ∀ r, row = some r → ∃ o : Obj, W.heap[r]? = some o ∧ o.isCells = false) : MnB E W' := ⟨h.hc, h.hn, ⟨h.b.1, h.b.2.keep fun _ _ hc _ => cell_kept hc hg hr⟩, cell_kept h.c0 hg hr⟩
theorem ItF.kept {E : MnE} {p q t v : Int} {bx br : Nat} {W W' : World} {row : Option Nat} (h : ItF E p q t v bx br W) (hg : W.grownBy W' row) (hr : ∀ r, row = some r → ∃ o : Obj, W.heap[r]? = some o ∧ o.isCells = false) : ItF E p q t v bx br W' := ⟨h.m.kept hg hr, kept_cell hg hr h.x, kept_cell hg hr h.r⟩
theorem itk_t {E : MnE} {p q t v : Int} {bx br : Nat} {A B C : World} (h : ItK E p q t v bx br A B) (k : ItK E p q t v bx br B C) : ItK E p q t v bx br A C := fun x => k (h x)
theorem itk_b {E : MnE} {p q t v : Int} {bx br B : Nat} (W : World) (l : Nat) (o o' : Obj) (_ : B ≤ l) (hl : W.heap[l]? = some o) (hc : o.isCells = false) (_ : o.isWalk = false) : ItK E p q t v bx br W (W.putObj l o') := fun h => h.kept (grownBy_putObj' W l o') (fun r e => by cases e; exact ⟨o, hl, hc⟩)
theorem LkW.kept {E : MnE} {p q t v f : Int} {bX bR bF : Nat} {W W' : World} {row : Option Nat} (h : LkW E p q t v f bX bR bF W) (hg : W.grownBy W' row) (hr : ∀ r, row = some r → ∃ o : Obj, W.heap[r]? = some o ∧ o.isCells = false) : LkW E p q t v f bX bR bF W' := ⟨h.i.kept hg hr, kept_cell hg hr h.f⟩
theorem keepsFrom_pure {B : Nat} {W W' : World} (hb : Below W.heap.size W W') : KeepsFrom B W W' := ⟨hb.size, fun k _ _ hk _ => (hb.block k (Array.getElem?_eq_some_iff.1 hk).1).trans hk⟩
theorem wpin_act {F : Fence} {n : Nat} {P : Program} {c : Code} {Q : Exit → Act → World → Prop} {a : Act} {w : World} (h : ∀ a0, a0 = a → c.wpIn F n P Q a0 w) : c.wpIn F n P Q a w := h a rfl
theorem below_set1 {n : Nat} {w w' : World} {g : Nat} (u : Value) (h : Below n w w') (hg : n ≤ g) : Below n w (w'.setCell ⟨g, 0, none⟩ u) := h.setCell (p := ⟨g, 0, none⟩) hg u
set_option maxRecDepth 100000 in
set_option maxHeartbeats 4000000 in
theorem mlist_is (E : MnE) (p q t v f : Int) (r : Bool) (w : World) (h : MnB E w) (hv : 1 ≤ v ∧ v ≤ 8) (hf : 1 ≤ f ∧ f ≤ 8) (hr : mnList E.l ⟨p, q, t, v⟩ f = r) :
    Calls Tryz.prog 109 #[.pointer (some ⟨E.bw, 0, none⟩), .agg #[.int .i64 p, .int .i64 q, .int .i64 t, .int .i64 v], .int .i64 f] w fun e w' => e = .returned (.bool r) ∧ Below w.heap.size w w' := by
  have hnn := h.hn
  have hcc := h.hc
  have HM0 := Lib.hid h
  clear h
  refine callsIn_wide.1 (callsIn_of_wp_marks (n := 6) Tryz.func109 rfl trivial (wpIn_wide.2 ?_))
  simp only [Tryz.ntmps109, List.size_toArray, List.length_cons, List.length_nil, Nat.reduceAdd, Nat.reduceSub, Array.replicate_succ, Array.replicate_zero, List.push_toArray, List.append_toArray, List.nil_append, List.cons_append]
  obtain ⟨fr, hfr⟩ : ∃ x : Int, (lsFrom E.l p q t v : Int) = x := ⟨_, rfl⟩
  obtain ⟨a, ha⟩ : ∃ x : Int, (lsAt E.l p q t v : Int) = x := ⟨_, rfl⟩
  obtain ⟨o, ho⟩ : ∃ x : Int, (lsTo E.l p q t v : Int) = x := ⟨_, rfl⟩
  obtain ⟨N, hN⟩ : ∃ N : Nat, lsLen E.l p q t v = N := ⟨_, rfl⟩
  obtain ⟨er, he⟩ : ∃ x, lsE E.l p q t v = x := ⟨_, rfl⟩
  have HFR := Lib.hid hfr
  have HA := Lib.hid ha
  have HO := Lib.hid ho
  have HN := Lib.hid hN
  have HNI := Lib.hid (show (lsLen E.l p q t v : Int) = (N : Int) by rw [hN])
  have HEE := Lib.hid he
  have HR := Lib.hid hr
  clear hfr ha ho hN he hr
  have HI := Lib.hid (show LkW E p q t v f w.heap.size (w.heap.size + 1) (w.heap.size + 1 + 1) ((((w.alloc (.cells #[.pointer (some ⟨E.bw, 0, none⟩)] 68)).alloc (.cells #[.int .i64 p, .int .i64 q, .int .i64 t, .int .i64 v] 48)).alloc (.cells #[.int .i64 f] 3)).alloc (.cells #[.bool false] 4)) from
    ⟨⟨(((HM0.out.alloc _).alloc _).alloc _).alloc _, (((Blk.new w _ _).alloc _).alloc _).alloc _, ((Blk.new_ (by simp) _ _).alloc _).alloc _⟩, (Blk.new_ (by simp) _ _).alloc _⟩)
  have HS := Lib.hid (Blk.new_ (w := (((w.alloc (.cells #[.pointer (some ⟨E.bw, 0, none⟩)] 68)).alloc (.cells #[.int .i64 p, .int .i64 q, .int .i64 t, .int .i64 v] 48)).alloc (.cells #[.int .i64 f] 3))) (g := w.heap.size + 1 + 1 + 1) (by simp) 4 #[.bool false])
  have HB := Lib.hid (show Below w.heap.size w ((((w.alloc (.cells #[.pointer (some ⟨E.bw, 0, none⟩)] 68)).alloc (.cells #[.int .i64 p, .int .i64 q, .int .i64 t, .int .i64 v] 48)).alloc (.cells #[.int .i64 f] 3)).alloc (.cells #[.bool false] 4)) from
    ((((Below.refl _ _).alloc (Nat.le_refl _) _).alloc (by simp) _).alloc (by simp <;> omega) _).alloc (by simp <;> omega) _)
  clear HM0
  go_upto_region 1 with fail
  generalize (((w.alloc (.cells #[.pointer (some ⟨E.bw, 0, none⟩)] 68)).alloc (.cells #[.int .i64 p, .int .i64 q, .int .i64 t, .int .i64 v] 48)).alloc (.cells #[.int .i64 f] 3)).alloc (.cells #[.bool false] 4) = w1 at HI HS HB ⊢
  have HSL := Lib.hid (show w.heap.size ≤ w.heap.size + 1 + 1 + 1 by omega)
  obtain ⟨n0, hn0⟩ : ∃ n0, w.heap.size = n0 := ⟨_, rfl⟩
  generalize w.heap.size + 1 + 1 + 1 = bS at HS HSL ⊢
  generalize w.heap.size + 1 + 1 = bF at HI ⊢
  generalize w.heap.size + 1 = bR at HI ⊢
  rw [hn0] at HB HSL
  have HN0 := Lib.hid (Nat.le_of_eq hn0.symm)
  have HN1 := Lib.hid hn0
  clear hn0
  obtain ⟨bX, hbx⟩ : ∃ x, w.heap.size = x := ⟨_, rfl⟩
  rw [hbx] at HI ⊢
  clear hbx
  have c0 := HI.out.i.m.c0; have b0 : _ = some (Value.pointer (some ⟨E.bw, 0, none⟩)) := HI.out.i.x.cell 0; have x0 := cell0 HI.out.i.r; have x1 := cell1 HI.out.i.r; have x2 := cell2 HI.out.i.r; have x3 := cell3 HI.out.i.r
  go_cut [7, 8, 9, 10] from 18 to 86 (fun u7 u8 u9 u10 wx => ∃ wy, wy = wx ∧ u8 = .int .i64 a ∧ u9 = .int .i64 o ∧ u10 = .int .i64 er ∧ ∃ g, u7 = .pointer (some ⟨g, 0, none⟩) ∧ Blk wx g 3 #[.int .i64 fr] ∧ w1.heap.size ≤ g ∧ Below w1.heap.size w1 wx)
  case first =>
    have HQ := Lib.hid (Below.refl w1.heap.size w1)
    have HX0 := Lib.hid HI.out
    have HB0 := Lib.hid (show w1.cell? ⟨bX, 0, none⟩ = some (.pointer (some ⟨E.bw, 0, none⟩)) from HI.out.i.x.cell 0)
    have hn1 : E.bw ≠ w1.heap.size := by have := lt_of_cell HI.out.i.m.c0; simp only at this; omega
    have hn2 : bR ≠ w1.heap.size := by have := HI.out.i.r.lt; omega
    have hn3 : bX ≠ w1.heap.size := by have := HI.out.i.x.lt; omega
    clear HI HB HS
    go_region_held3 (fun w' => w'.cell? ⟨bX, 0, none⟩ = some (.pointer (some ⟨E.bw, 0, none⟩)) ∧ w'.cell? ⟨E.bw, 0, none⟩ = some (.slice E.A E.n E.c) ∧ (w'.cell? ⟨bR, 0, none⟩ = some (.int .i64 p) ∧ w'.cell? ⟨bR, 1, none⟩ = some (.int .i64 q) ∧ w'.cell? ⟨bR, 2, none⟩ = some (.int .i64 t) ∧ w'.cell? ⟨bR, 3, none⟩ = some (.int .i64 v))) ((with_reducible refine ⟨?_, ?_, ?_, ?_, ?_, ?_⟩) <;> (repeat (first | with_reducible assumption | with_reducible refine ldrew ?_ | with_reducible refine lalloc _ ?_ | with_reducible refine lsetA ?_ ?_)))
      (first | (go_at_call 90; (first | (with_reducible refine (lspan_is E.A E.n E.c p q t v fr a o er E.l _ (HX0.out.i.m.b.pure HQ.out.drew) hcc (by omega) HFR.out HA.out HO.out HEE.out).mono ?_) | (with_reducible refine (lspan_is E.A E.n E.c p q t v fr a o er E.l _ (HX0.out.i.m.b.pure (HQ.out.alloc HQ.out.size _).drew) hcc (by omega) HFR.out HA.out HO.out HEE.out).mono ?_)); rintro e w7 ⟨rfl, hb⟩; (first | (with_reducible replace HQ := Lib.hid (pure_below HQ.out.drew hb)) | ((with_reducible have HK := Lib.hid ((Blk.new w1 3 #[.int .i64 0]).drew.pure hb)); (with_reducible replace HQ := Lib.hid (pure_below (HQ.out.alloc HQ.out.size _).drew hb)); have q0 : _ = some (Value.int .i64 0) := HK.out.cell 0; have p0 := HK.out.frozen 0)); replace b0 := cell_pure HQ.out HB0.out; replace c0 := cell_pure HQ.out HX0.out.i.m.c0; replace x0 := cell_pure HQ.out (cell0 HX0.out.i.r); replace x1 := cell_pure HQ.out (cell1 HX0.out.i.r); replace x2 := cell_pure HQ.out (cell2 HX0.out.i.r); replace x3 := cell_pure HQ.out (cell3 HX0.out.i.r); have hn4 : E.bw ≠ w7.heap.size := (by have := lt_of_cell c0; simp only at this; omega); have hn5 : bR ≠ w7.heap.size := (by have := lt_of_cell x0; simp only at this; omega); have hn6 : bX ≠ w7.heap.size := (by have := lt_of_cell b0; simp only at this; omega); clear hb))
    all_goals
      go_wp2_with fail
      go_meet
      first
        | with_reducible exact ⟨_, rfl, rfl, rfl, rfl, _, rfl, Blk.new _ _ _, HQ.out.size, HQ.out.alloc HQ.out.size _⟩
        | exact ⟨_, rfl, rfl, rfl, rfl, _, rfl, HK.out.set_ 0 _, Nat.le_refl _, below_set1 _ HQ.out (Nat.le_refl _)⟩
  case rest =>
  obtain ⟨w2, rfl, rfl, rfl, rfl, bA, rfl, hKA, hbA, hb⟩ := hcut
  clear c0 b0 x0 x1 x2 x3
  replace HI := Lib.hid (HI.out.pure hb)
  replace HS := Lib.hid (HS.out.pure hb)
  have HKA := Lib.hid hKA
  have HSA := Lib.hid (Nat.le_trans HB.out.size hbA)
  replace HB := Lib.hid (pure_below HB.out hb HN0.out)
  clear hKA hbA hb
  have c0 := HI.out.i.m.c0; have b0 : _ = some (Value.pointer (some ⟨E.bw, 0, none⟩)) := HI.out.i.x.cell 0; have x0 := cell0 HI.out.i.r; have x1 := cell1 HI.out.i.r; have x2 := cell2 HI.out.i.r; have x3 := cell3 HI.out.i.r
  go_wp2_with fail
  go_region_held3 (fun w' => w'.cell? ⟨bX, 0, none⟩ = some (.pointer (some ⟨E.bw, 0, none⟩)) ∧ w'.cell? ⟨E.bw, 0, none⟩ = some (.slice E.A E.n E.c) ∧ (w'.cell? ⟨bR, 0, none⟩ = some (.int .i64 p) ∧ w'.cell? ⟨bR, 1, none⟩ = some (.int .i64 q) ∧ w'.cell? ⟨bR, 2, none⟩ = some (.int .i64 t) ∧ w'.cell? ⟨bR, 3, none⟩ = some (.int .i64 v))) (first | with_reducible exact ⟨b0, c0, x0, x1, x2, x3⟩ | with_reducible exact ⟨ldrew_ b0, ldrew_ c0, ldrew_ x0, ldrew_ x1, ldrew_ x2, ldrew_ x3⟩) (first | (go_at_call 91; (with_reducible refine (llen_is E.A E.n E.c p q t v N er E.l _ HI.out.i.m.drew.b hcc (by omega) HNI.out HEE.out).mono ?_); rintro e w3 ⟨rfl, hb⟩; have hb2 := pure_trans (below_drew w2) hb; replace HI := Lib.hid (HI.out.pure hb2); replace HS := Lib.hid (HS.out.pure hb2); replace HKA := Lib.hid (HKA.out.pure hb2); replace HB := Lib.hid (pure_below HB.out hb2 HN0.out); clear c0 b0 x0 x1 x2 x3; clear hb hb2; have c0 := HI.out.i.m.c0; have b0 : _ = some (Value.pointer (some ⟨E.bw, 0, none⟩)) := HI.out.i.x.cell 0; have x0 := cell0 HI.out.i.r; have x1 := cell1 HI.out.i.r; have x2 := cell2 HI.out.i.r; have x3 := cell3 HI.out.i.r))
  have a0 : _ = some (Value.int .i64 fr) := HKA.out.cell 0
  obtain ⟨ah, hah⟩ : ∃ x : Int, mnAhead E.l ⟨p, q, t, v⟩ = x := ⟨_, rfl⟩
  have hfacts : 0 ≤ fr ∧ fr ≤ a ∧ a ≤ 4294967296 ∧ N ≤ 4294967296 := by
    have h1 := HFR.out
    have h2 := HA.out
    have h3 := HN.out
    have h4 := lsLen_le E.l p q t v
    have h5 := HI.out.i.m.b.1
    by_cases h : lsE E.l p q t v = 0
    · obtain ⟨_, _, h6, h7⟩ := ls_room h
      omega
    · unfold lsFrom at h1
      unfold lsAt at h2
      rw [if_neg h] at h1 h2
      omega
  obtain ⟨hf0, hfa, ha1, hN1⟩ := hfacts
  have hah2 : (a - fr) / v = ah := by rw [← hah]; unfold mnAhead; simp only [HA.out, HFR.out]
  have hah0 : 0 ≤ ah := by rw [← hah2]; exact Int.ediv_nonneg (by omega) (by omega)
  have hah1 : ah ≤ 4294967296 := by
    rw [← hah2]
    exact Int.le_trans (Int.ediv_le_self _ (by omega)) (by omega)
  have hw1 : wrap64 (a - fr) = a - fr := wrap64_in _ (by omega)
  have hw2 : wrap64 ((a - fr).tdiv v) = ah := by
    rw [Int.tdiv_eq_ediv_of_nonneg (by omega), hah2]
    exact wrap64_in _ (by omega)
  have HAH := Lib.hid hah
  clear hah
  go_upto_region 4 with fail
  rw [hah2]
  clear hw1 hw2 a0 hah2
  have HKH := Lib.hid (Blk.new w3 3 #[.int .i64 ah])
  have HSH := Lib.hid (show n0 ≤ w3.heap.size from Nat.le_trans HN0.out HB.out.size)
  replace HI := Lib.hid (HI.out.pure ((Below.refl _ _).alloc (Nat.le_refl _) (.cells #[.int .i64 ah] 3)))
  replace HS := Lib.hid (HS.out.pure ((Below.refl _ _).alloc (Nat.le_refl _) (.cells #[.int .i64 ah] 3)))
  replace HKA := Lib.hid (HKA.out.pure ((Below.refl _ _).alloc (Nat.le_refl _) (.cells #[.int .i64 ah] 3)))
  replace HB := Lib.hid (HB.out.alloc HSH.out (.cells #[.int .i64 ah] 3))
  clear c0 b0 x0 x1 x2 x3
  generalize w3.alloc (.cells #[.int .i64 ah] 3) = w4 at HI HS HKA HKH HB ⊢
  generalize w3.heap.size = bH at HKH HSH ⊢
  obtain ⟨k, hk⟩ : ∃ k, wdU N = k := ⟨_, rfl⟩
  have HWK := Lib.hid hk
  have hwN : IntKind.u64.wrap (N : Int) = N := by rw [IntKind.wrap_u64]; omega
  clear hk
  go_cut [52] from 18 to 86 (fun u52 wx => ∃ wy, wy = wx ∧ u52 = .bool (decide (0 < ah ∧ f < k)) ∧ Below w4.heap.size w4 wx)
  case first =>
    have h0 : w4.cell? ⟨bH, 0, none⟩ = some (.int .i64 ah) := HKH.out.cell 0
    have f0 : w4.cell? ⟨bF, 0, none⟩ = some (.int .i64 f) := HI.out.f.cell 0
    clear HI HS HKA HKH HB
    by_cases hp : 0 < ah
    · have HPP := Lib.hid hp
      obtain ⟨cc, hcc2⟩ : ∃ x, decide (f < k) = x := ⟨_, rfl⟩
      have HD := Lib.hid (show decide (0 < ah ∧ f < k) = cc by rw [← hcc2]; apply decide_eq_decide.2; exact ⟨fun h => h.2, fun h => ⟨hp, h⟩⟩)
      go_region_held3 (fun w' => w'.cell? ⟨bH, 0, none⟩ = some (.int .i64 ah) ∧ w'.cell? ⟨bF, 0, none⟩ = some (.int .i64 f)) (first | with_reducible exact ⟨h0, f0⟩ | with_reducible exact ⟨ldrew_ h0, ldrew_ f0⟩)
        (first | (go_at_call 21; (with_reducible refine (wof_is N k _ (by omega) HWK.out).mono ?_); rintro e w5 ⟨rfl, hb⟩; have HB5 := Lib.hid (show Below w4.heap.size w4 w5 by rw [← hb]; exact below_drew w4); replace h0 : w5.cell? ⟨bH, 0, none⟩ = some (.int .i64 ah) := by rw [← hb]; exact ldrew_ h0); replace f0 : w5.cell? ⟨bF, 0, none⟩ = some (.int .i64 f) := by rw [← hb]; exact ldrew_ f0)
      go_wp2_with fail
      go_meet
      rw [HD.out]
      exact ⟨_, rfl, rfl, HB5.out⟩
    · have HD := Lib.hid (show decide (0 < ah ∧ f < k) = false from decide_eq_false fun h => hp h.1)
      have hd0 : decide (0 < ah) = false := decide_eq_false hp
      clear hp
      go_quiet (fail)
      go_wp2_with fail
      go_meet
      rw [HD.out]
      exact ⟨_, rfl, rfl, below_drewN (Below.refl _ _) _⟩
  case rest =>
  obtain ⟨w5, rfl, rfl, hb⟩ := hcut
  replace HI := Lib.hid (HI.out.pure hb)
  replace HS := Lib.hid (HS.out.pure hb)
  replace HKA := Lib.hid (HKA.out.pure hb)
  replace HKH := Lib.hid (HKH.out.pure hb)
  replace HB := Lib.hid (pure_below HB.out hb HN0.out)
  clear hb
  by_cases hc : 0 < ah ∧ f < k
  · have hre : r = false := by
      rw [← HR.out]
      unfold mnList
      simp only [HAH.out, HN.out, HWK.out]
      rw [if_pos hc]
    subst hre
    have hd : decide (0 < ah ∧ f < k) = true := decide_eq_true hc
    rw [hd]
    have s0 : w5.cell? ⟨bS, 0, none⟩ = some (.bool false) := HS.out.cell 0
    have s1 := HS.out.frozen 0
    have s2 : (w5.setCell ⟨bS, 0, none⟩ (.bool false)).cell? ⟨bS, 0, none⟩ = some (.bool false) := (HS.out.set_ 0 (.bool false)).cell 0
    clear hc hd
    go_wp2_with fail
    refine ⟨.bool false, ?_, rfl, ?_⟩
    · simp [results, Tryz.f109, go_sem, s2]
    · rw [HN1.out]
      exact HB.out.setCell (p := ⟨bS, 0, none⟩) HSL.out (.bool false)
  · have hd : decide (0 < ah ∧ f < k) = false := decide_eq_false hc
    rw [hd]
    have HC1 := Lib.hid hc
    clear hd hc
    obtain ⟨kp, hk1⟩ : ∃ a, kyP E.l p q t v = a := ⟨_, rfl⟩
    obtain ⟨kq, hk2⟩ : ∃ a, kyQ E.l p q t v = a := ⟨_, rfl⟩
    obtain ⟨kt, hk3⟩ : ∃ a, kyT E.l p q t v = a := ⟨_, rfl⟩
    obtain ⟨kv, hk4⟩ : ∃ a, kyV E.l p q t v = a := ⟨_, rfl⟩
    obtain ⟨ke, hk5⟩ : ∃ a, kyE E.l p q t v = a := ⟨_, rfl⟩
    have HP := Lib.hid hk1
    have HQQ := Lib.hid hk2
    have HT := Lib.hid hk3
    have HV := Lib.hid hk4
    have HKE := Lib.hid hk5
    clear hk1 hk2 hk3 hk4 hk5
    obtain ⟨st, hst⟩ : ∃ x, mnStands E.l kp kq kt kv fr f = x := ⟨_, rfl⟩
    have HST := Lib.hid hst
    clear hst
    have h0 : w5.cell? ⟨bH, 0, none⟩ = some (.int .i64 ah) := HKH.out.cell 0
    go_upto_if 54 with fail
    go_cut [14, 15] from 18 to 86 (fun _ _ wx => ∃ wy, wy = wx ∧ ¬ (ah = 3 ∧ st = false) ∧ Below w5.heap.size w5 wx)
    case first =>
      by_cases h3 : ah = 3
      · subst h3
        go_upto_region 7 with fail
        go_cut [14, 15] from 18 to 86 (fun u7 u8 wx => ∃ wy, wy = wx ∧ u8 = .int .i64 ke ∧ ∃ g, u7 = .pointer (some ⟨g, 0, none⟩) ∧ Blk wx g 48 #[.int .i64 kp, .int .i64 kq, .int .i64 kt, .int .i64 kv] ∧ w5.heap.size ≤ g ∧ Below w5.heap.size w5 wx)
        case first =>
          have HQ := Lib.hid (Below.refl w5.heap.size w5)
          have HX0 := Lib.hid HI.out
          have HB0 := Lib.hid (show w5.cell? ⟨bX, 0, none⟩ = some (.pointer (some ⟨E.bw, 0, none⟩)) from HI.out.i.x.cell 0)
          have hn1 : E.bw ≠ w5.heap.size := by have := lt_of_cell HI.out.i.m.c0; simp only at this; omega
          have hn2 : bR ≠ w5.heap.size := by have := HI.out.i.r.lt; omega
          have hn3 : bX ≠ w5.heap.size := by have := HI.out.i.x.lt; omega
          have c0 := HI.out.i.m.c0; have b0 : _ = some (Value.pointer (some ⟨E.bw, 0, none⟩)) := HI.out.i.x.cell 0; have x0 := cell0 HI.out.i.r; have x1 := cell1 HI.out.i.r; have x2 := cell2 HI.out.i.r; have x3 := cell3 HI.out.i.r
          clear HI HB HS HKA HKH h0
          go_region_held3 (fun w' => w'.cell? ⟨bX, 0, none⟩ = some (.pointer (some ⟨E.bw, 0, none⟩)) ∧ w'.cell? ⟨E.bw, 0, none⟩ = some (.slice E.A E.n E.c) ∧ (w'.cell? ⟨bR, 0, none⟩ = some (.int .i64 p) ∧ w'.cell? ⟨bR, 1, none⟩ = some (.int .i64 q) ∧ w'.cell? ⟨bR, 2, none⟩ = some (.int .i64 t) ∧ w'.cell? ⟨bR, 3, none⟩ = some (.int .i64 v))) ((with_reducible refine ⟨?_, ?_, ?_, ?_, ?_, ?_⟩) <;> (repeat (first | with_reducible assumption | with_reducible refine ldrew ?_ | with_reducible refine lalloc _ ?_ | with_reducible refine lsetA ?_ ?_)))
            (first | (go_at_call 73; (first | (with_reducible refine (fkeys_is E.A E.n E.c p q t v kp kq kt kv ke E.l _ (HX0.out.i.m.b.pure HQ.out.drew) hcc (by omega) HP.out HQQ.out HT.out HV.out HKE.out).mono ?_) | (with_reducible refine (fkeys_is E.A E.n E.c p q t v kp kq kt kv ke E.l _ (HX0.out.i.m.b.pure (HQ.out.alloc HQ.out.size _).drew) hcc (by omega) HP.out HQQ.out HT.out HV.out HKE.out).mono ?_)); rintro e w7 ⟨rfl, hb⟩; (first | (with_reducible replace HQ := Lib.hid (pure_below HQ.out.drew hb)) | ((with_reducible have HK := Lib.hid ((Blk.new w5 48 #[.int .i64 0, .int .i64 0, .int .i64 0, .int .i64 0]).drew.pure hb)); (with_reducible replace HQ := Lib.hid (pure_below (HQ.out.alloc HQ.out.size _).drew hb)); have q0 := cell0 HK.out; have q1 := cell1 HK.out; have q2 := cell2 HK.out; have q3 := cell3 HK.out; have p0 := HK.out.frozen 0; have p1 := HK.out.frozen 1; have p2 := HK.out.frozen 2; have p3 := HK.out.frozen 3)); replace b0 := cell_pure HQ.out HB0.out; replace c0 := cell_pure HQ.out HX0.out.i.m.c0; replace x0 := cell_pure HQ.out (cell0 HX0.out.i.r); replace x1 := cell_pure HQ.out (cell1 HX0.out.i.r); replace x2 := cell_pure HQ.out (cell2 HX0.out.i.r); replace x3 := cell_pure HQ.out (cell3 HX0.out.i.r); have hn4 : E.bw ≠ w7.heap.size := (by have := lt_of_cell c0; simp only at this; omega); have hn5 : bR ≠ w7.heap.size := (by have := lt_of_cell x0; simp only at this; omega); have hn6 : bX ≠ w7.heap.size := (by have := lt_of_cell b0; simp only at this; omega); clear hb))
          all_goals
            go_wp2_with fail
            go_meet
            first
              | with_reducible exact ⟨_, rfl, rfl, _, rfl, Blk.new _ _ _, HQ.out.size, HQ.out.alloc HQ.out.size _⟩
              | exact ⟨_, rfl, rfl, _, rfl, (((HK.out.set_ 0 _).set_ 1 _).set_ 2 _).set_ 3 _, Nat.le_refl _, below_set4 _ HQ.out (Nat.le_refl _) _ _ _ _⟩
        case rest =>
        obtain ⟨w7, rfl, rfl, g, rfl, hK, hg, hb⟩ := hcut
        have k0 := cell0 hK
        have k1 := cell1 hK
        have k2 := cell2 hK
        have k3 := cell3 hK
        have HI7 := Lib.hid (HI.out.pure hb)
        have HS7 := Lib.hid (HS.out.pure hb)
        have HB7 := Lib.hid (pure_below HB.out hb HN0.out)
        have HBQ := Lib.hid hb
        have a0 : w7.cell? ⟨bA, 0, none⟩ = some (.int .i64 fr) := (HKA.out.pure hb).cell 0
        have f0 : w7.cell? ⟨bF, 0, none⟩ = some (.int .i64 f) := (HI7.out.f).cell 0
        have b0 : w7.cell? ⟨bX, 0, none⟩ = some (.pointer (some ⟨E.bw, 0, none⟩)) := HI7.out.i.x.cell 0
        clear hK hg hb h0
        go_wp2_with fail
        go_at_call 37
        refine (stands_is E kp kq kt kv fr f st _ HI7.out.i.m (by omega) HST.out).mono ?_
        rintro e w8 ⟨rfl, hb⟩
        replace HS7 := Lib.hid (HS7.out.pure hb)
        replace HB7 := Lib.hid (pure_below HB7.out hb HN0.out)
        replace HBQ := Lib.hid (pure_below HBQ.out hb)
        clear hb k0 k1 k2 k3 a0 f0 b0
        cases st with
        | true =>
          go_wp2_with fail
          go_meet
          exact ⟨_, rfl, (by simp), HBQ.out⟩
        | false =>
          have hre : r = false := by
            rw [← HR.out]
            unfold mnList
            simp only [HAH.out, HN.out, HWK.out]
            rw [if_neg HC1.out, if_pos]
            refine ⟨trivial, ?_⟩
            unfold cvKey
            simp only [HP.out, HQQ.out, HT.out, HV.out, HFR.out]
            exact HST.out
          subst hre
          have s0 : w8.cell? ⟨bS, 0, none⟩ = some (.bool false) := HS7.out.cell 0
          have s1 := HS7.out.frozen 0
          have s2 : (w8.setCell ⟨bS, 0, none⟩ (.bool false)).cell? ⟨bS, 0, none⟩ = some (.bool false) := (HS7.out.set_ 0 (.bool false)).cell 0
          go_wp2_with fail
          refine ⟨.bool false, ?_, rfl, ?_⟩
          · simp [results, Tryz.f109, go_sem, s2]
          · rw [HN1.out]
            exact HB7.out.setCell (p := ⟨bS, 0, none⟩) HSL.out (.bool false)
      · have e3 : (ah == 3) = false := beq_eq_false_iff_ne.mpr h3
        have HH := Lib.hid h3
        clear h3
        go_wp2_with fail
        go_meet
        exact ⟨_, rfl, fun h => HH.out h.1, Below.refl _ _⟩
    case rest =>
    obtain ⟨w6, rfl, hno, hb⟩ := hcut
    replace HI := Lib.hid (HI.out.pure hb)
    replace HS := Lib.hid (HS.out.pure hb)
    replace HKA := Lib.hid (HKA.out.pure hb)
    replace HKH := Lib.hid (HKH.out.pure hb)
    replace HB := Lib.hid (pure_below HB.out hb HN0.out)
    have HNO := Lib.hid hno
    clear hno hb h0
    have b0 : w6.cell? ⟨bX, 0, none⟩ = some (.pointer (some ⟨E.bw, 0, none⟩)) := HI.out.i.x.cell 0
    have x0 := cell0 HI.out.i.r
    have x1 := cell1 HI.out.i.r
    have x2 := cell2 HI.out.i.r
    have x3 := cell3 HI.out.i.r
    go_wp2_with (go_at_call 74; (with_reducible refine (elems_spec E p q t v _).mono ?_); rintro e w7 ⟨rfl, rfl⟩)
    have hBA : ∀ o, Below w6.heap.size w6 (w6.alloc o) := fun o => (Below.refl _ _).alloc (Nat.le_refl _) o
    have hb8 : Below w6.heap.size w6 ((w6.alloc (.cells #[.pointer (some ⟨E.bw, 0, none⟩)] 68)).alloc (.cells #[.int .i64 p, .int .i64 q, .int .i64 t, .int .i64 v] 48)) := (hBA _).alloc (hBA _).size _
    replace HI := Lib.hid (HI.out.pure hb8)
    replace HS := Lib.hid (HS.out.pure hb8)
    replace HKA := Lib.hid (HKA.out.pure hb8)
    replace HKH := Lib.hid (HKH.out.pure hb8)
    replace HB := Lib.hid (pure_below HB.out hb8 HN0.out)
    have HIT := Lib.hid (show ItF E p q t v w6.heap.size (w6.heap.size + 1) ((w6.alloc (.cells #[.pointer (some ⟨E.bw, 0, none⟩)] 68)).alloc (.cells #[.int .i64 p, .int .i64 q, .int .i64 t, .int .i64 v] 48)) from
      ⟨HI.out.i.m, (Blk.new w6 _ _).alloc _, Blk.new_ (by simp) _ _⟩)
    clear hBA hb8 b0 x0 x1 x2 x3
    generalize w6.heap.size = bx at HIT ⊢
    generalize (w6.alloc (.cells #[.pointer (some ⟨E.bw, 0, none⟩)] 68)).alloc (.cells #[.int .i64 p, .int .i64 q, .int .i64 t, .int .i64 v] 48) = w8 at HI HS HKA HKH HB HIT ⊢
    refine (wpIn_wide (n := 6)).1 ?_
    refine wpin_act fun a0 ha0 => ?_
    refine wpIn_rangeFunc_ownH rfl (by omega) (gf := 110) (lb := #[.pointer (some ⟨bx, 0, none⟩), .pointer (some ⟨bx + 1, 0, none⟩)]) (by rw [ha0]; rfl) trivial (enters_of Tryz.func110 (by kernel_rfl) rfl)
      (elems1_stops E p q t v bx (bx + 1) N w8 HN.out HIT.out (6 - 1) (by omega)) itk_t itk_b (Below.refl _ _) (fun _ => rfl)
      (fun pre W => (LkW E p q t v f bX bR bF W ∧ Blk W bS 4 #[.bool false] ∧ Blk W bA 3 #[.int .i64 fr] ∧ Blk W bH 3 #[.int .i64 ah] ∧ ∀ i ∈ pre, mnElem E.l ⟨p, q, t, v⟩ f i.val = true) ∧ Below n0 w W)
      (fun c pre W => (c = .ret ∧ Blk W bS 4 #[.bool false] ∧ ∃ i ∈ pre, mnElem E.l ⟨p, q, t, v⟩ f i.val = false) ∧ Below n0 w W)
      (OwnFrom.and (fun s A B row hs hg hr => ⟨hs.1.kept hg fun r e => (hr r e).2, kept_cell hg (fun r e => (hr r e).2) hs.2.1, kept_cell hg (fun r e => (hr r e).2) hs.2.2.1, kept_cell hg (fun r e => (hr r e).2) hs.2.2.2.1, hs.2.2.2.2⟩) (ownFrom_below HN0.out (Nat.le_trans HN0.out HB.out.size)))
      (fun c => OwnFrom.and (fun s A B row hs hg hr => ⟨hs.1, kept_cell hg (fun r e => (hr r e).2) hs.2.1, hs.2.2⟩) (ownFrom_below HN0.out (Nat.le_trans HN0.out HB.out.size)))
      ⟨⟨HI.out, HS.out, HKA.out, HKH.out, fun i h => by cases h⟩, HB.out⟩
      (fun x a' W => ∃ Bx, Blk W Bx 48 #[.int .i64 (cvAt E.l ⟨p, q, t, v⟩ x.val).p, .int .i64 (cvAt E.l ⟨p, q, t, v⟩ x.val).q, .int .i64 (cvAt E.l ⟨p, q, t, v⟩ x.val).t, .int .i64 (cvAt E.l ⟨p, q, t, v⟩ x.val).v] ∧
        a' = { tmps := (((a0.tmps.setIfInBounds 73 (.int .i64 (x.val : Int))).setIfInBounds 74 (.agg #[.int .i64 (cvAt E.l ⟨p, q, t, v⟩ x.val).p, .int .i64 (cvAt E.l ⟨p, q, t, v⟩ x.val).q, .int .i64 (cvAt E.l ⟨p, q, t, v⟩ x.val).t, .int .i64 (cvAt E.l ⟨p, q, t, v⟩ x.val).v])).setIfInBounds 16 (.int .i64 (x.val : Int))).setIfInBounds 17 (.pointer (some ⟨Bx, 0, none⟩)), defers := [] })
      (fun x a' _ A B row hs hg hr => by obtain ⟨Bx, hb, e⟩ := hs; exact ⟨Bx, kept_cell hg (fun r e => (hr r e).2) hb, e⟩)
      ?assign ?body ?done ?stop
    case assign =>
      rintro l pre x W K ⟨⟨hI, hS, hA, hH, hall⟩, hB⟩ hK
      have HQ := Lib.hid hK
      have HALL := Lib.hid hall
      clear hK hall HR HNI HEE HFR HA HO HC1 HST HP HQQ HT HV HKE HNO HI HS HKA HKH HB HIT
      subst ha0
      simp only [encE]
      gi_wp2
      refine HQ.out _ _ ((KeepsOthers.alloc _ _).from _) (fun h => h.pure ((Below.refl _ _).alloc (Nat.le_refl _) _)) ⟨⟨hI.pure ((Below.refl _ _).alloc (Nat.le_refl _) _), hS.alloc _, hA.alloc _, hH.alloc _, HALL.out⟩, hB.alloc (Nat.le_trans HN0.out hB.size) _⟩ ⟨W.heap.size, Blk.new _ _ _, ?_⟩
      rfl
    case body =>
      rintro l pre x a' W hl ⟨rr, hrr⟩ ⟨⟨hI, hS, hA, hH, hall⟩, hB⟩ ⟨Bx, hbx, rfl⟩ hlt
      have HII := Lib.hid hI
      have HSS := Lib.hid hS
      have HBB := Lib.hid hB
      have HAA := Lib.hid hA
      have HHH := Lib.hid hH
      have HALL := Lib.hid hall
      have b0 : W.cell? ⟨bX, 0, none⟩ = some (.pointer (some ⟨E.bw, 0, none⟩)) := hI.i.x.cell 0
      have a0 : W.cell? ⟨bA, 0, none⟩ = some (.int .i64 fr) := hA.cell 0
      have h0 : W.cell? ⟨bH, 0, none⟩ = some (.int .i64 ah) := hH.cell 0
      have f0 : W.cell? ⟨bF, 0, none⟩ = some (.int .i64 f) := hI.f.cell 0
      obtain ⟨i, hi⟩ := x
      obtain ⟨kp, hk1⟩ : ∃ a, (cvAt E.l ⟨p, q, t, v⟩ i).p = a := ⟨_, rfl⟩
      obtain ⟨kq, hk2⟩ : ∃ a, (cvAt E.l ⟨p, q, t, v⟩ i).q = a := ⟨_, rfl⟩
      obtain ⟨kt, hk3⟩ : ∃ a, (cvAt E.l ⟨p, q, t, v⟩ i).t = a := ⟨_, rfl⟩
      obtain ⟨kv, hk4⟩ : ∃ a, (cvAt E.l ⟨p, q, t, v⟩ i).v = a := ⟨_, rfl⟩
      simp only [hk1, hk2, hk3, hk4] at hbx ⊢
      have k0 := cell0 hbx
      have k1 := cell1 hbx
      have k2 := cell2 hbx
      have k3 := cell3 hbx
      have hw1 : wrap64 (ah + i) = ah + i := wrap64_in _ (by omega)
      have hm0 : 0 ≤ (ah + i) * f := Int.mul_nonneg (by omega) (by omega)
      have hm1 : (ah + i) * f ≤ 8589934592 * 8 := Int.mul_le_mul (by omega) hf.2 (by omega) (by omega)
      have hw2 : wrap64 ((ah + i) * f) = (ah + i) * f := wrap64_in _ (by omega)
      have hw3 : wrap64 (fr + (ah + i) * f) = fr + (ah + i) * f := wrap64_in _ (by omega)
      obtain ⟨se, hse⟩ : ∃ b, mnStands E.l kp kq kt kv (fr + (ah + i) * f) f = b := ⟨_, rfl⟩
      have HSE := Lib.hid hse
      have HEL := Lib.hid (show mnElem E.l ⟨p, q, t, v⟩ f i = se by
        unfold mnElem
        rw [hk1, hk2, hk3, hk4, HAH.out, HFR.out]
        exact hse)
      clear hse hI hS hA hH hall hB hbx hk1 hk2 hk3 hk4
      clear HR HNI HEE HA HO HC1 HST HP HQQ HT HV HKE HNO HI HS HKA HKH HB HIT
      subst ha0
      gi_wp2
      refine ⟨trivial, (CallsIn.inRound l (callsIn_wide.2 (stands_is E kp kq kt kv (fr + (ah + i) * f) f se _ HII.out.i.m (by omega) HSE.out))).mono ?_⟩
      rintro e W3 ⟨rfl, hb⟩
      have HB3 := Lib.hid hb
      clear hb
      have s0 : W3.cell? ⟨bS, 0, none⟩ = some (.bool false) := (HSS.out.pure HB3.out).cell 0
      have s1 := (HSS.out.pure HB3.out).frozen 0
      have hA3 := HAA.out.pure HB3.out
      have hH3 := HHH.out.pure HB3.out
      have HB4 := Lib.hid (pure_below HBB.out HB3.out HN0.out)
      clear b0 a0 h0 f0 k0 k1 k2 k3 hw1 hw2 hw3
      cases se with
      | true =>
        gi_wp2
        refine ⟨keepsFrom_pure HB3.out, fun h => h.pure HB3.out, ⟨HII.out.pure HB3.out, HSS.out.pure HB3.out, hA3, hH3, ?_⟩, HB4.out⟩
        intro j hj
        rcases List.mem_append.1 hj with hj | hj
        · exact HALL.out j hj
        · rw [List.mem_singleton.1 hj]
          exact HEL.out
      | false =>
        gi_wp2
        exact ⟨(keepsFrom_pure HB3.out).trans ((KeepsOthers.setCell _ _ _).from _), ⟨rfl, (HSS.out.pure HB3.out).set_ 0 _, ⟨i, hi⟩, List.mem_append.2 (.inr (List.mem_singleton.2 rfl)), HEL.out⟩, HB4.out.setCell (p := ⟨bS, 0, none⟩) HSL.out _⟩
    case done =>
      rintro D ys W hD rfl ⟨⟨hI, hS, hA, hH, hall⟩, hB⟩ hK
      subst ha0
      have hre : r = true := by
        rw [← HR.out]
        unfold mnList
        simp only [HAH.out, HN.out, HWK.out]
        rw [if_neg HC1.out, if_neg, List.all_eq_true]
        · intro i hi
          exact hall ⟨i, List.mem_range.1 hi⟩ (List.mem_finRange _)
        · unfold cvKey
          simp only [HP.out, HQQ.out, HT.out, HV.out, HFR.out]
          rw [HST.out]
          exact HNO.out
      subst hre
      have s0 : W.cell? ⟨bS, 0, none⟩ = some (.bool false) := hS.cell 0
      have s1 := hS.frozen 0
      have s2 := hS.set_ 0 (.bool true)
      have hK' := (KeepsOthers.setCell W ⟨bS, 0, none⟩ (.bool true)).same D _ hK rfl
      go_wp2_with fail
      refine ⟨by simp, .inl ⟨_, _, rfl, run_takeDeferred hK', ?_⟩⟩
      have hc5 := kept_cell (grownBy_putObj' _ D (.deferred none)) (fun r e => by cases e; exact ⟨_, hK', rfl⟩) s2
      have hc6 : _ = some (Value.bool true) := hc5.cell 0
      refine ⟨.bool true, ?_, rfl, ?_⟩
      · simp [results, Tryz.f109, go_sem, hc6]
      · rw [HN1.out]
        have hB8 : n0 ≤ w8.heap.size := Nat.le_trans HN0.out HB.out.size
        exact (hB.setCell (p := ⟨bS, 0, none⟩) HSL.out _).trans (belowK_b (w := w) HN0.out _ D _ _ (by have := HB.out.size; omega) hK' rfl rfl)
    case stop =>
      rintro D c pre W hD _ ⟨⟨rfl, hS, hex⟩, hB⟩ hK
      have hre : r = false := by
        obtain ⟨i, _, hi⟩ := hex
        rw [← HR.out]
        unfold mnList
        simp only [HAH.out, HN.out, HWK.out]
        rw [if_neg HC1.out, if_neg]
        · apply Bool.eq_false_iff.2
          intro h
          have h1 := List.all_eq_true.1 h i.val (List.mem_range.2 i.isLt)
          rw [hi] at h1
          cases h1
        · unfold cvKey
          simp only [HP.out, HQQ.out, HT.out, HV.out, HFR.out]
          rw [HST.out]
          exact HNO.out
      subst hre
      subst ha0
      gi_wp2
      refine ⟨by simp, .inl ⟨_, _, rfl, run_takeDeferred hK, ?_⟩⟩
      have hc5 := kept_cell (grownBy_putObj' W D (.deferred none)) (fun r e => by cases e; exact ⟨_, hK, rfl⟩) hS
      have hc6 : _ = some (Value.bool false) := hc5.cell 0
      refine ⟨.bool false, ?_, rfl, ?_⟩
      · simp [results, Tryz.f109, go_sem, hc6]
      · rw [HN1.out]
        exact hB.trans (belowK_b (w := w) HN0.out _ D _ _ (by have := HB.out.size; omega) hK rfl rfl)
end Go.Proofs.YtejalfjeihlpeaaGreat
