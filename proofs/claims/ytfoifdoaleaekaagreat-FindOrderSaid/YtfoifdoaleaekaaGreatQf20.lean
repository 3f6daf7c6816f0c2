/-
  Package tree: Check, over the nodes in preorder.
  Package encode: Build of a node without children.
  Package scalar: the functions of the readers.
-/
import Derived.Test.YtfoifdoaleaekaaGreatQf19
namespace Go.Proofs.YtfoifdoaleaekaaGreat
open Go.RowKit Go.Acc
attribute [local go_sem] Oper.semAt_some
def errP (Y : List (Nat × Nv)) (sb : Nat → Bool) (ke : Nat → Int) (c : Nat) (i : Fin Y.length) : Int :=
  if 4096 < c + 1 then 5 else if 64 ≤ Y[i].1 then 61 else if sb i.val = false then 60 else ke i.val
def errI (Y : List (Nat × Nv)) (sb : Nat → Bool) (ke : Nat → Int) (j : Nat) : Int := if h : j < Y.length then errP Y sb ke j ⟨j, h⟩ else 0
def firstE (f : Nat → Int) : Nat → Int
  | 0 => 0
  | m + 1 => if firstE f m ≠ 0 then firstE f m else f m
theorem firstE_no {f : Nat → Int} {m : Nat} (h : ∀ j, j < m → f j = 0) : firstE f m = 0 := by
  induction m with
  | zero => rfl
  | succ m ih =>
    unfold firstE
    rw [ih fun j hj => h j (by omega)]
    simp [h m (by omega)]
theorem firstE_at {f : Nat → Int} {i m : Nat} (h : ∀ j, j < i → f j = 0) (hi : f i ≠ 0) (hm : i < m) : firstE f m = f i := by
  induction m with
  | zero => omega
  | succ m ih =>
    unfold firstE
    by_cases e : i = m
    · subst e
      rw [firstE_no h]; simp
    · rw [ih (by omega), if_pos hi]
theorem kset {w : World} {p q : Addr} {u v : Value} (h : w.cell? q = some v) (hne : q.block ≠ p.block) : (w.setCell p u).cell? q = some v := by
  exact (World.cell?_of_block (w := w) (Below.heap_setCell w p u q.block hne)).trans h
theorem own_of_kpv {V : Nat → Prop} {W W' : World} {p : Nat → Prop} {x : Nv} {t : Tr} (h : NodeR W p x t) (hk : Kpv V W W') (hp : ∀ k, p k → ¬ V k) : NodeR W' p x t := h.keep fun a u hc hpa => hk a u hc (hp _ hpa)
set_option maxRecDepth 100000 in
set_option maxHeartbeats 4000000 in
theorem check_gen (x : Nv) (t : Tr) (Y : List (Nat × Nv)) (p : Nat → Prop) (w : World) (sb : Nat → Bool) (ke : Nat → Int) (r : Int) (h : NodeO w p 0 x t Y) (hp : ∀ k, p k → k < w.heap.size) (hm : Y.length ≤ 1099511627776) (hlev : ∀ y ∈ Y, y.1 ≤ 1099511627776)
    (hS : ∀ i y W, Y[i]? = some y → Kpv (fun k => w.heap.size ≤ k) w W → Calls Tryz.prog 39 #[.agg #[.int .i64 y.2.k, .int .i64 y.2.n, .int .u64 (y.2.u : Int), .string ⟨y.2.s.toArray⟩, .slice y.2.A y.2.an y.2.ac, .slice y.2.B y.2.bn y.2.bc]] W fun e W' => e = .returned (.bool (sb i)) ∧ Below W.heap.size W W')
    (hK : ∀ i y W, Y[i]? = some y → Kpv (fun k => w.heap.size ≤ k) w W → Calls Tryz.prog 40 #[.agg #[.int .i64 y.2.k, .int .i64 y.2.n, .int .u64 (y.2.u : Int), .string ⟨y.2.s.toArray⟩, .slice y.2.A y.2.an y.2.ac, .slice y.2.B y.2.bn y.2.bc]] W fun e W' => e = .returned (.int .i64 (ke i)) ∧ Below W.heap.size W W')
    (hr : firstE (errI Y sb ke) Y.length = r) :
    Calls Tryz.prog 11 #[.agg #[.int .i64 x.k, .int .i64 x.n, .int .u64 (x.u : Int), .string ⟨x.s.toArray⟩, .slice x.A x.an x.ac, .slice x.B x.bn x.bc]] w fun e w' => e = .returned (.int .i64 r) ∧ Below w.heap.size w w' := by
  have HS := Lib.hid hS
  have HK := Lib.hid hK
  have HR := Lib.hid hr
  have HLV := Lib.hid hlev
  have HP := Lib.hid hp
  have HM := Lib.hid hm
  have HNO := Lib.hid h
  clear hS hK hr hlev hp hm h
  refine callsIn_wide.1 (callsIn_of_wp_marks (n := 6) Tryz.func11 rfl trivial (wpIn_wide.2 ?_))
  simp only [Tryz.ntmps11, List.size_toArray, List.length_cons, List.length_nil, Nat.reduceAdd, Nat.reduceSub, Array.replicate_succ, Array.replicate_zero, List.push_toArray, List.append_toArray, List.nil_append, List.cons_append]
  go_wp2_with (go_at_call 38; refine (walked_spec x _).mono ?_; rintro e w' ⟨rfl, rfl⟩)
  have hB4 : Below w.heap.size w ((((w.alloc (.cells #[.int .i64 x.k, .int .i64 x.n, .int .u64 (x.u : Int), .string ⟨x.s.toArray⟩, .slice x.A x.an x.ac, .slice x.B x.bn x.bc] 26)).alloc (.cells #[.int .i64 0] 30)).alloc (.cells #[.int .i64 0] 3)).alloc (.cells #[.int .i64 x.k, .int .i64 x.n, .int .u64 (x.u : Int), .string ⟨x.s.toArray⟩, .slice x.A x.an x.ac, .slice x.B x.bn x.bc] 26)) := ((((Below.refl _ _).alloc (Nat.le_refl _) _).alloc (by simp) _).alloc (by simp; omega) _).alloc (by simp; omega) _
  have hR4 := ((blk_new2 w (.cells #[.int .i64 x.k, .int .i64 x.n, .int .u64 (x.u : Int), .string ⟨x.s.toArray⟩, .slice x.A x.an x.ac, .slice x.B x.bn x.bc] 26) 30 #[.int .i64 0]).alloc (.cells #[.int .i64 0] 3)).alloc (.cells #[.int .i64 x.k, .int .i64 x.n, .int .u64 (x.u : Int), .string ⟨x.s.toArray⟩, .slice x.A x.an x.ac, .slice x.B x.bn x.bc] 26)
  have hN4 := (blk_new3 w (.cells #[.int .i64 x.k, .int .i64 x.n, .int .u64 (x.u : Int), .string ⟨x.s.toArray⟩, .slice x.A x.an x.ac, .slice x.B x.bn x.bc] 26) (.cells #[.int .i64 0] 30) 3 #[.int .i64 0]).alloc (.cells #[.int .i64 x.k, .int .i64 x.n, .int .u64 (x.u : Int), .string ⟨x.s.toArray⟩, .slice x.A x.an x.ac, .slice x.B x.bn x.bc] 26)
  have hW4 : Blk ((((w.alloc (.cells #[.int .i64 x.k, .int .i64 x.n, .int .u64 (x.u : Int), .string ⟨x.s.toArray⟩, .slice x.A x.an x.ac, .slice x.B x.bn x.bc] 26)).alloc (.cells #[.int .i64 0] 30)).alloc (.cells #[.int .i64 0] 3)).alloc (.cells #[.int .i64 x.k, .int .i64 x.n, .int .u64 (x.u : Int), .string ⟨x.s.toArray⟩, .slice x.A x.an x.ac, .slice x.B x.bn x.bc] 26)) (w.heap.size + 1 + 1 + 1) 26 #[.int .i64 x.k, .int .i64 x.n, .int .u64 (x.u : Int), .string ⟨x.s.toArray⟩, .slice x.A x.an x.ac, .slice x.B x.bn x.bc] := Blk.new_ (by simp) _ _
  have HB := Lib.hid hB4
  have HRB := Lib.hid hR4
  have HNB := Lib.hid hN4
  have HWB := Lib.hid hW4
  have HO := Lib.hid (HNO.out.pure hB4)
  clear hB4 hR4 hN4 hW4
  generalize ((((w.alloc (.cells #[.int .i64 x.k, .int .i64 x.n, .int .u64 (x.u : Int), .string ⟨x.s.toArray⟩, .slice x.A x.an x.ac, .slice x.B x.bn x.bc] 26)).alloc (.cells #[.int .i64 0] 30)).alloc (.cells #[.int .i64 0] 3)).alloc (.cells #[.int .i64 x.k, .int .i64 x.n, .int .u64 (x.u : Int), .string ⟨x.s.toArray⟩, .slice x.A x.an x.ac, .slice x.B x.bn x.bc] 26)) = w1 at HB HRB HNB HWB HO ⊢
  have HLR := Lib.hid (show w.heap.size ≤ w.heap.size + 1 by omega)
  have HLN := Lib.hid (show w.heap.size ≤ w.heap.size + 1 + 1 by omega)
  have HNE := Lib.hid (show w.heap.size + 1 ≠ w.heap.size + 1 + 1 by omega)
  generalize w.heap.size + 1 + 1 + 1 = bW at HWB ⊢
  generalize w.heap.size + 1 + 1 = bN at HNB HLN HNE ⊢
  generalize w.heap.size + 1 = bR at HRB HLR HNE ⊢
  have HV := Lib.hid (show ∀ k, (k = bR ∨ k = bN) → k < w1.heap.size by rintro k (rfl | rfl); exact HRB.out.lt; exact HNB.out.lt)
  have HPV := Lib.hid (show ∀ k, p k → ¬ (k = bR ∨ k = bN) by
    intro k hpk hk
    have h1 := HP.out k hpk
    have h2 := HLR.out
    have h3 := HLN.out
    omega)
  have HB1 := Lib.hid HB.out.size
  refine (wpIn_wide (n := 6)).1 ?_
  refine wpin_a fun a0 ha0 => ?_
  refine wpIn_rangeFunc_ownH rfl (by omega) (gf := 76) (lb := #[.pointer (some ⟨bW, 0, none⟩)]) (by rw [ha0]; rfl) trivial (enters_of Tryz.func76 (by kernel_rfl) rfl)
    (walked1_stops x t Y (fun k => k = bR ∨ k = bN) p bW w1 (6 - 1) (by omega) HO.out HWB.out HPV.out HV.out HM.out) (fun h k => ⟨h.1.trans k.1, Nat.le_trans h.2 k.2⟩) (fun W l o o' _ h hc _ => ⟨kpv_b W l o o' h hc, by simp [World.putObj]⟩) (Below.refl _ _) (fun _ => rfl)
    (fun pre W => (Blk W bN 3 #[.int .i64 (pre.length : Int)] ∧ Blk W bR 30 #[.int .i64 0] ∧ ∀ j y, pre[j]? = some y → errP Y sb ke j y = 0) ∧ Below w.heap.size w W)
    (fun c pre W => (c = .ret ∧ ∃ q y e, pre = q ++ [y] ∧ (∀ j y, q[j]? = some y → errP Y sb ke j y = 0) ∧ errP Y sb ke q.length y = e ∧ e ≠ 0 ∧ Blk W bR 30 #[.int .i64 e]) ∧ Below w.heap.size w W)
    (OwnFrom.and (fun s A B row hs hg hr => ⟨bkept hg (fun r e => (hr r e).2) hs.1, bkept hg (fun r e => (hr r e).2) hs.2.1, hs.2.2⟩) (ownFrom_below (Nat.le_refl _) HB.out.size))
    (fun c => OwnFrom.and (fun s A B row hs hg hr => by obtain ⟨h1, q, y, e, h2, h3, h4, h5, h6⟩ := hs; exact ⟨h1, q, y, e, h2, h3, h4, h5, bkept hg (fun r e => (hr r e).2) h6⟩) (ownFrom_below (Nat.le_refl _) HB.out.size))
    ⟨⟨HNB.out, HRB.out, fun j y h => by simp at h⟩, HB.out⟩
    (fun i a' W => ∃ Bx, Blk W Bx 26 #[.int .i64 Y[i].2.k, .int .i64 Y[i].2.n, .int .u64 (Y[i].2.u : Int), .string ⟨Y[i].2.s.toArray⟩, .slice Y[i].2.A Y[i].2.an Y[i].2.ac, .slice Y[i].2.B Y[i].2.bn Y[i].2.bc] ∧
      a' = { tmps := (((a0.tmps.setIfInBounds 9 (.int .i64 (Y[i].1 : Int))).setIfInBounds 10 (.agg #[.int .i64 Y[i].2.k, .int .i64 Y[i].2.n, .int .u64 (Y[i].2.u : Int), .string ⟨Y[i].2.s.toArray⟩, .slice Y[i].2.A Y[i].2.an Y[i].2.ac, .slice Y[i].2.B Y[i].2.bn Y[i].2.bc])).setIfInBounds 4 (.int .i64 (Y[i].1 : Int))).setIfInBounds 5 (.pointer (some ⟨Bx, 0, none⟩)), defers := [] })
    (fun i a' _ A B row hs hg hr => by obtain ⟨Bx, hb, e⟩ := hs; exact ⟨Bx, bkept hg (fun r e => (hr r e).2) hb, e⟩)
    ?assign ?body ?done ?stop
  case assign =>
    rintro l pre i W K ⟨⟨hN, hR, hall⟩, hB⟩ hK'
    have HQ := Lib.hid hK'
    have HALL := Lib.hid hall
    clear hK' hall HR HB HNB HRB HWB HO
    subst ha0
    generalize hyi : Y[i] = yi at HQ ⊢
    obtain ⟨yl, yn⟩ := yi
    simp only [encY]
    gi_wp2
    have hA := (Below.refl W.heap.size W).alloc (Nat.le_refl _) (.cells #[.int .i64 yn.k, .int .i64 yn.n, .int .u64 (yn.u : Int), .string ⟨yn.s.toArray⟩, .slice yn.A yn.an yn.ac, .slice yn.B yn.bn yn.bc] 26)
    exact HQ.out _ _ ((KeepsOthers.alloc _ _).from _) ⟨Kpv.pure hA, hA.size⟩ ⟨⟨hN.alloc _, hR.alloc _, HALL.out⟩, hB.alloc hB.size _⟩ ⟨W.heap.size, Blk.new _ _ _, rfl⟩
  case body =>
    rintro l pre i a' W hl ⟨rr, hrr⟩ ⟨⟨hN, hR, hall⟩, hB⟩ ⟨Bx, hbx, rfl⟩ hlt
    have HALL := Lib.hid hall
    have HBB := Lib.hid hB
    have HNN := Lib.hid hN
    have HRR := Lib.hid hR
    obtain ⟨c, hc⟩ : ∃ c, pre.length = c := ⟨_, rfl⟩
    have hc40 : c < 1099511627776 := by have := HM.out; omega
    have HSi := Lib.hid (fun W' (hk : Kpv (fun k => w.heap.size ≤ k) w W') => HS.out i.val Y[i] W' (List.getElem?_eq_getElem i.isLt) hk)
    have HKi := Lib.hid (fun W' (hk : Kpv (fun k => w.heap.size ≤ k) w W') => HK.out i.val Y[i] W' (List.getElem?_eq_getElem i.isLt) hk)
    obtain ⟨e, he⟩ : ∃ e, errP Y sb ke c i = e := ⟨_, rfl⟩
    have he' := he
    unfold errP at he'
    have hlv := HLV.out Y[i] (List.getElem_mem _)
    have HEE := Lib.hid he
    have HCC := Lib.hid hc
    obtain ⟨si, hsi⟩ : ∃ s, sb i.val = s := ⟨_, rfl⟩
    obtain ⟨ki, hki⟩ : ∃ s, ke i.val = s := ⟨_, rfl⟩
    rw [hsi] at HSi he'
    rw [hki] at HKi he'
    generalize hyi : Y[i] = yi at hbx HSi HKi he' hlv ⊢
    obtain ⟨yl, yn⟩ := yi
    simp only at hbx HSi HKi he' hlv ⊢
    rw [hc] at hN
    have n0 : W.cell? ⟨bN, 0, none⟩ = some (.int .i64 (c : Int)) := hN.cell 0
    have f0 := hN.frozen 0
    have hN2 := hN.set_ 0 (.int .i64 ((c : Int) + 1))
    have n1 : (W.setCell ⟨bN, 0, none⟩ (.int .i64 ((c : Int) + 1))).cell? ⟨bN, 0, none⟩ = some (.int .i64 ((c : Int) + 1)) := hN2.cell 0
    have hR2 := hR.far (p := ⟨bN, 0, none⟩) (by exact HNE.out) (.int .i64 ((c : Int) + 1))
    have r1 : (W.setCell ⟨bN, 0, none⟩ (.int .i64 ((c : Int) + 1))).cell? ⟨bR, 0, none⟩ = some (.int .i64 0) := hR2.cell 0
    have g1 := hR2.frozen 0
    have HN2 := Lib.hid hN2
    have HR2 := Lib.hid hR2
    have HB2 := Lib.hid (hB.setCell (p := ⟨bN, 0, none⟩) HLN.out (.int .i64 ((c : Int) + 1)))
    have hlv0 : (yl : Int) ≤ 1099511627776 := by omega
    clear hN hR hall hB hN2 hR2 HB HNB HRB HWB HO hlt hsi hki he hc hyi
    subst ha0
    by_cases h1 : 4096 < c + 1
    · rw [if_pos h1] at he'
      have h1' : decide ((4096 : Int) < (c : Int) + 1) = true := decide_eq_true (by omega)
      have HE5 := Lib.hid he'
      clear he'
      gi_wp2
      exact ⟨((KeepsOthers.setCell _ _ _).from _).trans ((KeepsOthers.setCell _ _ _).from _), ⟨rfl, pre, i, 5, rfl, HALL.out, by rw [HCC.out, HEE.out]; exact HE5.out.symm, by decide, HR2.out.set_ 0 _⟩, HB2.out.setCell (p := ⟨bR, 0, none⟩) HLR.out _⟩
    · rw [if_neg h1] at he'
      have h1' : decide ((4096 : Int) < (c : Int) + 1) = false := decide_eq_false (by omega)
      by_cases h2 : 64 ≤ yl
      · rw [if_pos h2] at he'
        have h2' : decide ((64 : Int) ≤ (yl : Int)) = true := decide_eq_true (by omega)
        have HE5 := Lib.hid he'
        clear h1 he'
        gi_wp2
        exact ⟨((KeepsOthers.setCell _ _ _).from _).trans ((KeepsOthers.setCell _ _ _).from _), ⟨rfl, pre, i, 61, rfl, HALL.out, by rw [HCC.out, HEE.out]; exact HE5.out.symm, by decide, HR2.out.set_ 0 _⟩, HB2.out.setCell (p := ⟨bR, 0, none⟩) HLR.out _⟩
      · rw [if_neg h2] at he'
        have h2' : decide ((64 : Int) ≤ (yl : Int)) = false := decide_eq_false (by omega)
        have hX2 := hbx.far (p := ⟨bN, 0, none⟩) (by
          rintro rfl
          have q1 := HNN.out
          unfold Blk at q1 hbx
          rw [q1] at hbx
          injection hbx with hbx
          injection hbx with q2
          simp at q2) (.int .i64 ((c : Int) + 1))
        have x0 : _ = some (Value.int .i64 yn.k) := hX2.cell 0
        have x1 : _ = some (Value.int .i64 yn.n) := hX2.cell 1
        have x2 : _ = some (Value.int .u64 (yn.u : Int)) := hX2.cell 2
        have x3 : _ = some (Value.string ⟨yn.s.toArray⟩) := hX2.cell 3
        have x4 : _ = some (Value.slice yn.A yn.an yn.ac) := hX2.cell 4
        have x5 : _ = some (Value.slice yn.B yn.bn yn.bc) := hX2.cell 5
        have HSC := Lib.hid (HSi.out _ (fun a u hc _ => cell_pure (w := w) HB2.out hc))
        have HX2 := Lib.hid hX2
        have HE2 := Lib.hid he'
        clear h1 h2 hX2 HSi he' hbx
        gi_wp2
        refine ⟨trivial, (CallsIn.inRound l (callsIn_wide.2 HSC.out)).mono ?_⟩
        rintro e' W3 ⟨rfl, hb3⟩
        have HB3 := Lib.hid hb3
        have HX3 := Lib.hid (HX2.out.pure hb3)
        have r3 : W3.cell? ⟨bR, 0, none⟩ = some (.int .i64 0) := (HR2.out.pure hb3).cell 0
        have g3 := (HR2.out.pure hb3).frozen 0
        have HBW := Lib.hid (pure_below HB2.out hb3)
        clear hb3 x0 x1 x2 x3 x4 x5 n0 n1 f0 r1 g1 h1' h2'
        have x0 : W3.cell? ⟨Bx, 0, none⟩ = some (Value.int .i64 yn.k) := HX3.out.cell 0
        have x1 : W3.cell? ⟨Bx, 1, none⟩ = some (Value.int .i64 yn.n) := HX3.out.cell 1
        have x2 : W3.cell? ⟨Bx, 2, none⟩ = some (Value.int .u64 (yn.u : Int)) := HX3.out.cell 2
        have x3 : W3.cell? ⟨Bx, 3, none⟩ = some (Value.string ⟨yn.s.toArray⟩) := HX3.out.cell 3
        have x4 : W3.cell? ⟨Bx, 4, none⟩ = some (Value.slice yn.A yn.an yn.ac) := HX3.out.cell 4
        have x5 : W3.cell? ⟨Bx, 5, none⟩ = some (Value.slice yn.B yn.bn yn.bc) := HX3.out.cell 5
        cases si with
        | false =>
          gi_wp2
          exact ⟨(((KeepsOthers.setCell _ _ _).from _).trans (keepsFrom_p HB3.out)).trans ((KeepsOthers.setCell _ _ _).from _), ⟨rfl, pre, i, 60, rfl, HALL.out, by rw [HCC.out, HEE.out]; exact HE2.out.symm, by decide, (HR2.out.pure HB3.out).set_ 0 _⟩, HBW.out.setCell (p := ⟨bR, 0, none⟩) HLR.out _⟩
        | true =>
          have he3 : ki = e := HE2.out
          have HKC := Lib.hid (HKi.out _ (fun a u hc _ => cell_pure (w := w) HBW.out hc))
          have HE3 := Lib.hid he3
          clear he3 HKi
          gi_wp2
          refine ⟨trivial, (CallsIn.inRound l (callsIn_wide.2 HKC.out)).mono ?_⟩
          rintro e' W4 ⟨rfl, hb4⟩
          have HB4 := Lib.hid hb4
          have HB34 := Lib.hid (pure_below HB3.out hb4)
          have HBW4 := Lib.hid (pure_below HBW.out hb4)
          have HR4 := Lib.hid (HR2.out.pure HB34.out)
          have HN4 := Lib.hid (HN2.out.pure HB34.out)
          clear hb4 x0 x1 x2 x3 x4 x5 r3 g3
          have r4 : W4.cell? ⟨bR, 0, none⟩ = some (.int .i64 0) := HR4.out.cell 0
          have g4 := HR4.out.frozen 0
          by_cases hk0 : ki = 0
          · have hq : (ki != 0) = false := by rw [hk0]; rfl
            have HK0 := Lib.hid hk0
            clear hk0
            gi_wp2
            refine ⟨((KeepsOthers.setCell _ _ _).from _).trans (keepsFrom_p HB34.out), ?_, ⟨?_, HR4.out, ?_⟩, HBW4.out⟩
            · refine ⟨fun a u ha hv => cell_pure HB34.out (kset ha fun hh => hv (.inr hh)), ?_⟩
              have := HB34.out.size
              simpa [World.setCell] using this
            · have h := HN4.out
              rw [List.length_append, HCC.out]
              exact h
            · intro j y hj
              rw [List.getElem?_append] at hj
              split at hj
              · exact HALL.out j y hj
              · rename_i hjc
                rw [HCC.out] at hj hjc
                have hj0 : j - c = 0 := by
                  cases hjj : j - c with
                  | zero => rfl
                  | succ m => rw [hjj] at hj; simp at hj
                rw [hj0] at hj
                simp at hj
                have hjc' : j = c := by omega
                rw [hjc', ← hj, HEE.out, ← HE3.out, HK0.out]
          · have hq : (ki != 0) = true := by simpa using hk0
            have HK0 := Lib.hid hk0
            clear hk0
            gi_wp2
            exact ⟨(((KeepsOthers.setCell _ _ _).from _).trans (keepsFrom_p HB34.out)).trans ((KeepsOthers.setCell _ _ _).from _), ⟨rfl, pre, i, ki, rfl, HALL.out, by rw [HCC.out, HEE.out]; exact HE3.out.symm, HK0.out, HR4.out.set_ 0 _⟩, HBW4.out.setCell (p := ⟨bR, 0, none⟩) HLR.out _⟩
  case done =>
    rintro D ys W hD rfl ⟨⟨hN, hR, hall⟩, hB⟩ hK'
    subst ha0
    have hre : r = 0 := by
      rw [← HR.out]
      refine firstE_no fun j hj => ?_
      unfold errI
      rw [dif_pos hj]
      exact hall j ⟨j, hj⟩ (by simp [hj])
    subst hre
    have r0 : W.cell? ⟨bR, 0, none⟩ = some (.int .i64 0) := hR.cell 0
    have g0 := hR.frozen 0
    have s2 := hR.set_ 0 (.int .i64 0)
    have hK2 := (KeepsOthers.setCell W ⟨bR, 0, none⟩ (.int .i64 0)).same D _ hK' rfl
    clear hall hN hR HB HNB HRB HWB HO
    go_wp2_with fail
    refine ⟨by simp, .inl ⟨_, _, rfl, run_takeDeferred hK2, ?_⟩⟩
    have hc5 := bkept (grownBy_putObj' _ D (.deferred none)) (fun r e => by cases e; exact ⟨_, hK2, rfl⟩) s2
    have hc6 : _ = some (Value.int .i64 0) := hc5.cell 0
    refine ⟨.int .i64 0, ?_, rfl, ?_⟩
    · simp [results, Tryz.f11, go_sem, hc6]
    · exact (hB.setCell (p := ⟨bR, 0, none⟩) HLR.out _).trans (belowK_b (w := w) (Nat.le_refl _) _ D _ _ (Nat.le_trans HB1.out hD) hK2 rfl rfl)
  case stop =>
    rintro D c pre W hD hpre ⟨⟨rfl, q, y, e, rfl, hall, hy, he, hR⟩, hB⟩ hK'
    subst ha0
    have hlen : q.length < Y.length := by
      obtain ⟨rest, hr⟩ := hpre
      have := congrArg List.length hr
      simp at this
      omega
    have hpj : ∀ j (hj : j < q.length + 1), (q ++ [y])[j]? = some ⟨j, by omega⟩ := by
      intro j hj
      obtain ⟨rest, hr⟩ := hpre
      have h1 : ((q ++ [y]) ++ rest)[j]? = (q ++ [y])[j]? := List.getElem?_append_left (by simp; omega)
      rw [← h1, hr]
      simp [show j < Y.length by omega]
    have hyv : y = ⟨q.length, hlen⟩ := by
      have h1 := hpj q.length (by omega)
      simp at h1
      exact h1
    have hre : r = e := by
      rw [← HR.out]
      have h1 : ∀ j, j < q.length → errI Y sb ke j = 0 := by
        intro j hj
        unfold errI
        rw [dif_pos (by omega)]
        refine hall j ⟨j, by omega⟩ ?_
        have h2 := hpj j (by omega)
        rw [List.getElem?_append_left hj] at h2
        exact h2
      have h2 : errI Y sb ke q.length = e := by
        unfold errI
        rw [dif_pos hlen, ← hyv]
        exact hy
      rw [firstE_at h1 (by rw [h2]; exact he) hlen, h2]
    subst hre
    clear hall hy he hpj hyv HB HNB HRB HWB HO
    gi_wp2
    refine ⟨by simp, .inl ⟨_, _, rfl, run_takeDeferred hK', ?_⟩⟩
    have hc5 := bkept (grownBy_putObj' W D (.deferred none)) (fun r e => by cases e; exact ⟨_, hK', rfl⟩) hR
    have hc6 : _ = some (Value.int .i64 r) := hc5.cell 0
    refine ⟨.int .i64 r, ?_, rfl, ?_⟩
    · simp [results, Tryz.f11, go_sem, hc6]
    · exact hB.trans (belowK_b (w := w) (Nat.le_refl _) _ D _ _ (Nat.le_trans HB1.out hD) hK' rfl rfl)
end Go.Proofs.YtfoifdoaleaekaaGreat

namespace Go.Proofs.YtfoifdoaleaekaaGreat
open Go.RowKit Go.Acc
def DocW (w : World) (m : List UInt8) (e : Ending) (w' : World) : Prop := ∃ A n c, e = .returned (.tuple #[.slice A n c, .int .i64 0]) ∧ OwnB w' w.heap.size A n c m ∧ Below w.heap.size w w'
theorem docw_lift {w W : World} {m : List UInt8} {e : Ending} {w' : World} (hB : Below w.heap.size w W) (h : DocW W m e w') : DocW w m e w' := by
  obtain ⟨A, n, c, he, hO, hB'⟩ := h
  exact ⟨A, n, c, he, hO.rebase hB.size, pure_trans hB hB'⟩
end Go.Proofs.YtfoifdoaleaekaaGreat

namespace Go.Proofs.YtfoifdoaleaekaaGreat
open Go.RowKit Go.Acc
def valV (s : Bool) (u : Nat) : Value := .agg #[.bool s, .int .u64 (u : Int)]
theorem sx_bnd {y u : Nat} (hy : y = 1 ∨ y = 2 ∨ y = 4 ∨ y = 8) (hu : u < 2 ^ (8 * y)) : -9223372036854775808 ≤ sx y u ∧ sx y u ≤ 9223372036854775807 := by
  unfold sx
  rcases hy with rfl | rfl | rfl | rfl <;> split <;> simp at * <;> omega
theorem loadI_64 (l : List UInt8) (a x : Int) : -9223372036854775808 ≤ loadI l a x ∧ loadI l a x ≤ 9223372036854775807 := by
  unfold loadI
  split
  · rename_i h
    have h1 := isW_iff.1 h.1
    have hx := loadU_lt l a x.toNat
    rw [show ((x.toNat : Nat) : Int) = x by omega] at hx
    exact sx_bnd (by omega) hx
  · omega
set_option maxRecDepth 100000 in
set_option maxHeartbeats 400000 in
theorem rd1_spec (A : Option Addr) (n c : Nat) (a x : Int) (w : World) : Calls Tryz.prog 140 #[.slice A n c, .int .i64 a, .int .i64 x] w fun e w' => e = .returned (valV false 0) ∧ Below w.heap.size w w' := by
  go_enter Tryz.func140, Tryz.ntmps140
  go_wp2
  refine bodyPost_ret (v := .agg #[.bool false, .int .u64 0]) (by simp [results, Tryz.results140, go_sem]) rfl ⟨rfl, ?_⟩
  exact (Below.refl _ _).alloc (Nat.le_refl _) _
set_option maxRecDepth 100000 in
set_option maxHeartbeats 400000 in
theorem without_spec (A : Option Addr) (n c : Nat) (a x : Int) (l : List UInt8) (w : World) (hl : IsB w A n l) (hc : n ≤ c) (hn : n ≤ 9223372036854775807) :
    Calls Tryz.prog 142 #[.slice A n c, .int .i64 a, .int .i64 x] w fun e w' => e = .returned (valV false (loadU l a x)) ∧ Below w.heap.size w w' := by
  have HL := Lib.hid (hl.alloc (.cells #[.bool false, .int .u64 0] 102))
  have HB := Lib.hid ((Below.refl w.heap.size w).alloc (Nat.le_refl _) (.cells #[.bool false, .int .u64 0] 102))
  have HK := Lib.hid (Blk.new w 102 #[.bool false, .int .u64 0])
  clear hl
  go_enter Tryz.func142, Tryz.ntmps142
  go_wp2_with fail
  go_at_call 47
  refine (load_spec A n c a x l _ HL.out hc hn).mono ?_
  rintro e w1 ⟨rfl, hb⟩
  have HB := Lib.hid (pure_below HB.out hb)
  have HK := Lib.hid (HK.out.pure hb)
  have c0 : w1.cell? ⟨w.heap.size, 0, none⟩ = some (.bool false) := HK.out.cell 0
  have c1 : w1.cell? ⟨w.heap.size, 1, none⟩ = some (.int .u64 0) := HK.out.cell 1
  have f0 := HK.out.frozen 0
  have f1 := HK.out.frozen 1
  clear hb
  go_wp2
  refine bodyPost_ret (v := .agg #[.bool false, .int .u64 (loadU l a x)]) (by simp [results, Tryz.results142, go_sem, c0, c1]) rfl ⟨rfl, ?_⟩
  exact (HB.out.setCell (Nat.le_refl _) _).setCell (Nat.le_refl _) _
set_option maxRecDepth 100000 in
set_option maxHeartbeats 400000 in
theorem rd2_spec (A : Option Addr) (n c : Nat) (a x : Int) (l : List UInt8) (w : World) (hl : IsB w A n l) (hc : n ≤ c) (hn : n ≤ 9223372036854775807) :
    Calls Tryz.prog 141 #[.slice A n c, .int .i64 a, .int .i64 x] w fun e w' => e = .returned (valV false (min (loadU l a x) 1)) ∧ Below w.heap.size w w' := by
  have HL := Lib.hid (hl.alloc (.cells #[.bool false, .int .u64 0] 102))
  have HB := Lib.hid ((Below.refl w.heap.size w).alloc (Nat.le_refl _) (.cells #[.bool false, .int .u64 0] 102))
  have HK := Lib.hid (Blk.new w 102 #[.bool false, .int .u64 0])
  have hf : ∀ W : World, (Instr.field 102 (.agg #[.bool false, .int .u64 (loadU l a x)]) 1).run Tryz.prog W = .ok (.int .u64 (loadU l a x)) W := by
    generalize (loadU l a x : Int) = u
    intro W
    kernel_rfl
  have hmin : (if (1 : Int) < (loadU l a x : Int) then (1 : Int) else (loadU l a x : Int)) = ((min (loadU l a x) 1 : Nat) : Int) := by
    split <;> omega
  obtain ⟨m, hm⟩ : ∃ m, min (loadU l a x) 1 = m := ⟨_, rfl⟩
  rw [hm] at hmin ⊢
  have hmh := Lib.hid hm
  clear hl hm
  go_enter Tryz.func141, Tryz.ntmps141
  go_wp2_with fail
  go_at_call 142
  refine (without_spec A n c a x l _ HL.out hc hn).mono ?_
  unfold valV
  rintro e w1 ⟨rfl, hb⟩
  have HB := Lib.hid (pure_below HB.out hb)
  have HK := Lib.hid (HK.out.pure hb)
  have c0 : w1.cell? ⟨w.heap.size, 0, none⟩ = some (.bool false) := HK.out.cell 0
  have c1 : w1.cell? ⟨w.heap.size, 1, none⟩ = some (.int .u64 0) := HK.out.cell 1
  have f0 := HK.out.frozen 0
  have f1 := HK.out.frozen 1
  clear hb
  go_wp2
  refine bodyPost_ret (v := .agg #[.bool false, .int .u64 m]) (by first | (simp [results, Tryz.results141, go_sem, c0, c1]; done) | (have hmo := hmh.out; simp [results, Tryz.results141, go_sem, c0, c1]; omega)) rfl ⟨rfl, ?_⟩
  exact (HB.out.setCell (Nat.le_refl _) _).setCell (Nat.le_refl _) _
set_option maxRecDepth 100000 in
set_option maxHeartbeats 400000 in
theorem with_spec (A : Option Addr) (n c : Nat) (a x : Int) (l : List UInt8) (w : World) (hl : IsB w A n l) (hc : n ≤ c) (hn : n ≤ 9223372036854775807) :
    Calls Tryz.prog 143 #[.slice A n c, .int .i64 a, .int .i64 x] w fun e w' => e = .returned (valV (decide (loadI l a x < 0)) (loadI l a x).natAbs) ∧ Below w.heap.size w w' := by
  have HL := Lib.hid (hl.alloc (.cells #[.bool false, .int .u64 0] 102))
  have HB := Lib.hid ((Below.refl w.heap.size w).alloc (Nat.le_refl _) (.cells #[.bool false, .int .u64 0] 102))
  have HK := Lib.hid (Blk.new w 102 #[.bool false, .int .u64 0])
  have hbd := loadI_64 l a x
  have b1 := hbd.1
  have b2 := hbd.2
  obtain ⟨i, hi⟩ : ∃ i, loadI l a x = i := ⟨_, rfl⟩
  rw [hi] at b1 b2 ⊢
  have HI := Lib.hid hi
  clear hl hbd hi
  go_enter Tryz.func143, Tryz.ntmps143
  go_wp2_with fail
  go_at_call 205
  refine (loadi_spec A n c a x l _ HL.out hc hn).mono ?_
  rw [HI.out]
  rintro e w1 ⟨rfl, hb⟩
  have HB := Lib.hid (pure_below HB.out hb)
  have HK := Lib.hid (HK.out.pure hb)
  have c0 : w1.cell? ⟨w.heap.size, 0, none⟩ = some (.bool false) := HK.out.cell 0
  have c1 : w1.cell? ⟨w.heap.size, 1, none⟩ = some (.int .u64 0) := HK.out.cell 1
  have f0 := HK.out.frozen 0
  have f1 := HK.out.frozen 1
  clear hb
  by_cases h0 : i < 0
  · have e1 : IntKind.u64.wrap (-IntKind.u64.wrap i) = ((i.natAbs : Nat) : Int) := by simp only [IntKind.wrap_u64]; omega
    have hd : decide (i < 0) = true := decide_eq_true h0
    have HE := Lib.hid e1
    have HD := Lib.hid hd
    clear e1 b1 b2
    go_wp2
    refine bodyPost_ret (v := .agg #[.bool true, .int .u64 (i.natAbs : Nat)]) (by simp [results, Tryz.results143, go_sem, c0, c1]; try exact HE.out) rfl ⟨by rw [HD.out]; rfl, ?_⟩
    exact (HB.out.setCell (Nat.le_refl _) _).setCell (Nat.le_refl _) _
  · have e1 : IntKind.u64.wrap i = ((i.natAbs : Nat) : Int) := by simp only [IntKind.wrap_u64]; omega
    have hd : decide (i < 0) = false := decide_eq_false h0
    have HE := Lib.hid e1
    have HD := Lib.hid hd
    clear e1 b1 b2
    go_wp2
    refine bodyPost_ret (v := .agg #[.bool false, .int .u64 (i.natAbs : Nat)]) (by simp [results, Tryz.results143, go_sem, c0, c1]; try exact HE.out) rfl ⟨by rw [HD.out]; rfl, ?_⟩
    exact (HB.out.setCell (Nat.le_refl _) _).setCell (Nat.le_refl _) _
end Go.Proofs.YtfoifdoaleaekaaGreat
