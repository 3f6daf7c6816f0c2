/-
  accordionref00: room.cut and Cut, of any tree that came in.
-/
import Derived.Test.YtfoifdoaleaekaaGreatQe39
import Derived.Deep.RegionHeld3
namespace Go.Proofs.YtfoifdoaleaekaaGreat
open Go.RowKit Go.Acc
inductive NodeI (w : World) : Nv → Tr → Prop
  | mk {x : Nv} {ks : List (List UInt8)} {l : List Tr} {vs : List Nv} (h1 : IsS w x.A x.an ks) (h2 : IsN w x.B x.bn vs) (hn : x.bn ≤ 9223372036854775807) (hl : vs.length = l.length)
      (hc : ∀ (i : Nat) v t, vs[i]? = some v → l[i]? = some t → NodeI w v t) : NodeI w x (.mk x.k x.n x.u x.s ks l)
theorem NodeI.pure {w w' : World} {x : Nv} {t : Tr} (h : NodeI w x t) (hb : Below w.heap.size w w') : NodeI w' x t := by
  induction h with
  | mk h1 h2 hn hl hc ih => exact .mk (h1.pure hb) (h2.pure hb) hn hl ih
structure CtR (w : World) (B k : Nat) (ts : List Tr) (A : Option Addr) (c : Nat) (vs : List Nv) : Prop where
  own : OwnT w B A k c vs
  len : ts.length = k
  kids : ∀ (i : Nat) v t, vs[i]? = some v → ts[i]? = some t → NodeR w (fun b => B ≤ b ∧ b < w.heap.size ∧ ∀ ad, A = some ad → b ≠ ad.block) v t
theorem CtR.nil (w : World) (B : Nat) : CtR w B 0 [] none 0 [] := ⟨Own.nil _ _, rfl, fun i v t hv _ => by simp at hv⟩
theorem CtR.fr {w w' : World} {B k rb : Nat} {ts : List Tr} {A : Option Addr} {c : Nat} {vs : List Nv} (h : CtR w B k ts A c vs) (hf : Fr (fun j => j = rb) w w') (hr : rb < B) : CtR w' B k ts A c vs :=
  ⟨h.own.fr hf (fun ad e => by have := (h.own.addr ad e).2.1; omega), h.len, fun i v t hv ht => ((h.kids i v t hv ht).keep fun a u hc hp => cell_fr hf hc (by omega)).mono fun b hb => ⟨hb.1, Nat.lt_of_lt_of_le hb.2.1 hf.size, hb.2.2⟩⟩
theorem CtR.step {w W7 W8 : World} {B k rb a : Nat} {ts : List Tr} {A A1 : Option Addr} {c c1 : Nat} {vs : List Nv} {y : Nv} {t : Tr} (h : CtR w B k ts A c vs) (hf : Fr (fun j => j = rb) w W7) (hr : rb < B) (hB : B ≤ w.heap.size) (ha : w.heap.size ≤ a)
    (hx : NodeR W7 (fun b => a ≤ b ∧ b < W7.heap.size) y t) (ho : OwnT W8 B A1 (k + 1) c1 (vs ++ [y])) (hF : Fr (fun b => ∃ ad, A = some ad ∧ b = ad.block) W7 W8)
    (hat : A1.map (·.block) = A.map (·.block) ∨ A1.map (·.block) = some W7.heap.size) : CtR W8 B (k + 1) (ts ++ [t]) A1 c1 (vs ++ [y]) := by
  have hA : ∀ ad, A = some ad → B ≤ ad.block ∧ ad.block < w.heap.size := fun ad e => (h.own.addr ad e).2
  have hl : vs.length = k := h.own.1
  have hs := hf.size
  have hS := hF.size
  have hA1 : ∀ ad, A1 = some ad → (∃ ad0, A = some ad0 ∧ ad.block = ad0.block) ∨ ad.block = W7.heap.size := by
    rintro ad rfl
    rcases hat with e | e
    · cases A with
      | none => simp at e
      | some ad0 => simp at e; exact .inl ⟨ad0, rfl, e⟩
    · simp at e; exact .inr e
  refine ⟨ho, by rw [List.length_append, h.len]; rfl, fun i v t' hv ht => ?_⟩
  by_cases hi : i < k
  · rw [List.getElem?_append_left (by omega)] at hv
    rw [List.getElem?_append_left (by rw [h.len]; exact hi)] at ht
    refine ((h.kids i v t' hv ht).keep fun b u hc hp => cell_fr hF (cell_fr hf hc (by omega)) ?_).mono fun b hb => ⟨hb.1, by omega, fun ad e e2 => ?_⟩
    · rintro ⟨ad, e, e2⟩
      exact hp.2.2 ad e e2
    · rcases hA1 ad e with ⟨ad0, e3, e4⟩ | e3
      · exact hb.2.2 ad0 e3 (e2.trans e4)
      · omega
  · have hik : i = k := by
      have := (List.getElem?_eq_some_iff.1 hv).1
      simp at this
      omega
    subst hik
    rw [List.getElem?_append_right (by omega), hl, Nat.sub_self] at hv
    rw [List.getElem?_append_right (by rw [h.len]; exact Nat.le_refl _), h.len, Nat.sub_self] at ht
    simp at hv ht
    subst hv ht
    refine (hx.keep fun b u hc hp => cell_fr hF hc ?_).mono fun b hb => ⟨by omega, by omega, fun ad e e2 => ?_⟩
    · rintro ⟨ad, e, e2⟩
      have := hA ad e
      omega
    · rcases hA1 ad e with ⟨ad0, e3, e4⟩ | e3
      · have := hA ad0 e3
        omega
      · omega
def CutW (W : World) (rb m : Nat) (t : Tr) (left : Nat) (e : Ending) (W' : World) : Prop :=
  ∃ y : Nv, e = .returned (.agg #[.int .i64 y.k, .int .i64 y.n, .int .u64 (y.u : Int), .string ⟨y.s.toArray⟩, .slice y.A y.an y.ac, .slice y.B y.bn y.bc]) ∧ NodeR W' (fun b => W.heap.size ≤ b ∧ b < W'.heap.size) y (cutT m t left).1 ∧ Blk W' rb 72 #[.int .i64 ((cutT m t left).2 : Int), .int .i64 (m : Int)] ∧ Fr (fun j => j = rb) W W'
theorem cut_ne {w1 : World} {o : Obj} {A : Option Addr} (h : ∀ ad, A = some ad → (w1.alloc o).drew.heap.size ≤ ad.block) : ∀ ad, A = some ad → ¬ ad.block = w1.heap.size := by
  intro ad e
  have h1 : (w1.alloc o).heap.size ≤ ad.block := h ad e
  rw [al_size] at h1
  omega
theorem le_al {w1 : World} {o : Obj} : w1.heap.size ≤ (w1.alloc o).drew.heap.size := by
  show w1.heap.size ≤ (w1.alloc o).heap.size
  rw [al_size]
  omega
set_option maxRecDepth 100000 in
set_option maxHeartbeats 4000000 in
theorem rcut_spec (m : Nat) {w0 : World} {x : Nv} {t : Tr} (h : NodeI w0 x t) : ∀ (W : World) (rb left : Nat), Below w0.heap.size w0 W → w0.heap.size ≤ rb → left ≤ 1000 → Blk W rb 72 #[.int .i64 (left : Int), .int .i64 (m : Int)] →
    Calls Tryz.prog 36 #[.pointer (some ⟨rb, 0, none⟩), .agg #[.int .i64 x.k, .int .i64 x.n, .int .u64 (x.u : Int), .string ⟨x.s.toArray⟩, .slice x.A x.an x.ac, .slice x.B x.bn x.bc]] W (CutW W rb m t left) := by
  induction h with
  | @mk x ks l vs h1 h2 hn hl hc ih =>
    intro W rb left hW hrb hle hR
    obtain ⟨xk, xn, xu, xs, XA, xan, xac, XB, xbn, xbc⟩ := x
    have HIH := Lib.hid ih
    have HW := Lib.hid hW
    have HRB := Lib.hid (And.intro hrb hR.lt)
    replace h1 : IsS w0 XA xan ks := h1
    replace h2 : IsN w0 XB xbn vs := h2
    replace hn : xbn ≤ 9223372036854775807 := hn
    have HI := Lib.hid h2
    have HVL := Lib.hid hl
    have HBN := Lib.hid (show vs.length = xbn from h2.1)
    have hba := below_two W (.cells #[.int .i64 xk, .int .i64 xn, .int .u64 (xu : Int), .string ⟨xs.toArray⟩, .slice XA xan xac, .slice XB xbn xbc] 26) (.cells #[.int .i64 0, .int .i64 0, .int .u64 0, .string ⟨#[]⟩, .slice none 0 0, .slice none 0 0] 26)
    have HB0 := Lib.hid hba
    have HX0 := Lib.hid ((Blk.new W 26 #[.int .i64 xk, .int .i64 xn, .int .u64 (xu : Int), .string ⟨xs.toArray⟩, .slice XA xan xac, .slice XB xbn xbc]).alloc (.cells #[.int .i64 0, .int .i64 0, .int .u64 0, .string ⟨#[]⟩, .slice none 0 0, .slice none 0 0] 26))
    have HZ0 := Lib.hid (Blk.new_ (w := W.alloc (.cells #[.int .i64 xk, .int .i64 xn, .int .u64 (xu : Int), .string ⟨xs.toArray⟩, .slice XA xan xac, .slice XB xbn xbc] 26)) (g := W.heap.size + 1) (by simp) 26 #[.int .i64 0, .int .i64 0, .int .u64 0, .string ⟨#[]⟩, .slice none 0 0, .slice none 0 0])
    have HR0 := Lib.hid (hR.pure hba)
    have HK0 := Lib.hid (h1.pure (pure_below hW hba))
    clear ih h1 h2 hl hc hW hrb hR hba
    go_enter Tryz.func36, Tryz.ntmps36
    go_upto_region 1 with fail
    generalize (W.alloc (.cells #[.int .i64 xk, .int .i64 xn, .int .u64 (xu : Int), .string ⟨xs.toArray⟩, .slice XA xan xac, .slice XB xbn xbc] 26)).alloc (.cells #[.int .i64 0, .int .i64 0, .int .u64 0, .string ⟨#[]⟩, .slice none 0 0, .slice none 0 0] 26) = w1 at HB0 HX0 HZ0 HR0 HK0 ⊢
    generalize hbt : W.heap.size = bt at HX0 HZ0 ⊢
    generalize hbr : bt + 1 = br at HZ0 ⊢
    have HT := Lib.hid (show W.heap.size = bt ∧ bt + 1 = br ∧ br < w1.heap.size ∧ rb < bt from ⟨hbt, hbr, HZ0.out.lt, by rw [← hbt]; exact HRB.out.2⟩)
    clear hbt hbr
    have x0 : w1.cell? ⟨bt, 0, none⟩ = some (.int .i64 xk) := HX0.out.cell 0
    have x1 : w1.cell? ⟨bt, 1, none⟩ = some (.int .i64 xn) := HX0.out.cell 1
    have x2 : w1.cell? ⟨bt, 2, none⟩ = some (.int .u64 (xu : Int)) := HX0.out.cell 2
    have x3 : w1.cell? ⟨bt, 3, none⟩ = some (.string ⟨xs.toArray⟩) := HX0.out.cell 3
    have x4 : w1.cell? ⟨bt, 4, none⟩ = some (.slice XA xan xac) := HX0.out.cell 4
    have r1 : w1.cell? ⟨rb, 1, none⟩ = some (.int .i64 (m : Int)) := HR0.out.cell 1
    have HTX := Lib.hid (show ∀ W', Below w1.heap.size w1 W' → Calls Tryz.prog 72 #[.slice XA xan xac, .int .i64 64, .int .i64 (m : Int)] W' (StrsW W' (min xan 64) ((ks.take 64).map fun x => x.take m)) from fun W' hb => texts_spec XA xan xac ks 64 m W' (HK0.out.pure hb) (by omega))
    have hnb : bt ≠ w1.heap.size := by have := HT.out; omega
    have hnr : rb ≠ w1.heap.size := by have := HT.out; omega
    have HBa := Lib.hid (show Below w1.heap.size w1 w1.drew from (Below.refl _ _).drew)
    have HBb := Lib.hid (show Below w1.heap.size w1 (w1.alloc (.cells #[.int .i64 0, .int .i64 0, .int .u64 0, .string ⟨#[]⟩, .slice none 0 0, .slice none 0 0] 26)).drew from ((Below.refl _ _).alloc (Nat.le_refl _) _).drew)
    go_cut [5] (fun u5 wx => ∃ wy, wy = wx ∧ ∃ g A c, u5 = .pointer (some ⟨g, 0, none⟩) ∧ Blk wx g 26 #[.int .i64 xk, .int .i64 xn, .int .u64 (xu : Int), .string ⟨(xs.take m).toArray⟩, .slice A (min xan 64) c, .slice none 0 0] ∧ OwnS wx w1.heap.size A (min xan 64) c ((ks.take 64).map fun x => x.take m) ∧ w1.heap.size ≤ g ∧ (∀ ad, A = some ad → ad.block ≠ g) ∧ Below w1.heap.size w1 wx)
    case first =>
      go_region_held3 (fun w' => w'.cell? ⟨bt, 0, none⟩ = some (.int .i64 xk) ∧ w'.cell? ⟨bt, 1, none⟩ = some (.int .i64 xn) ∧ w'.cell? ⟨bt, 2, none⟩ = some (.int .u64 (xu : Int)) ∧ w'.cell? ⟨bt, 3, none⟩ = some (.string ⟨xs.toArray⟩) ∧ w'.cell? ⟨bt, 4, none⟩ = some (.slice XA xan xac) ∧ w'.cell? ⟨rb, 1, none⟩ = some (.int .i64 (m : Int)))
        ((with_reducible refine ⟨?_, ?_, ?_, ?_, ?_, ?_⟩) <;> (repeat (first | with_reducible assumption | with_reducible refine kdrew ?_ | with_reducible refine kalloc _ ?_ | with_reducible refine lsetB ?_ ?_)))
        (first
          | (go_at_call 61; (with_reducible refine (short_is xs m _).mono ?_); rintro e w' ⟨rfl, rfl⟩)
          | (go_at_call 72; (with_reducible refine (HTX.out _ HBa.out).mono ?_); rintro e w5 ⟨A5, c5, rfl, hO5, hb5⟩; have y0 := cell_pure hb5 (kdrew x0); have y1 := cell_pure hb5 (kdrew x1); have y2 := cell_pure hb5 (kdrew x2); have y3 := cell_pure hb5 (kdrew x3); have y4 := cell_pure hb5 (kdrew x4); have y5 := cell_pure hb5 (kdrew r1); have HO5 := Lib.hid hO5; have HB5 := Lib.hid (pure_trans HBa.out hb5); have HQA := Lib.hid hb5; clear hO5 hb5)
          | (go_at_call 72; (with_reducible refine (HTX.out _ HBb.out).mono ?_); rintro e w5 ⟨A5, c5, rfl, hO5, hb5⟩; have y0 := cell_pure hb5 (kdrew (kalloc (.cells #[.int .i64 0, .int .i64 0, .int .u64 0, .string ⟨#[]⟩, .slice none 0 0, .slice none 0 0] 26) x0)); have y1 := cell_pure hb5 (kdrew (kalloc (.cells #[.int .i64 0, .int .i64 0, .int .u64 0, .string ⟨#[]⟩, .slice none 0 0, .slice none 0 0] 26) x1)); have y2 := cell_pure hb5 (kdrew (kalloc (.cells #[.int .i64 0, .int .i64 0, .int .u64 0, .string ⟨#[]⟩, .slice none 0 0, .slice none 0 0] 26) x2)); have y3 := cell_pure hb5 (kdrew (kalloc (.cells #[.int .i64 0, .int .i64 0, .int .u64 0, .string ⟨#[]⟩, .slice none 0 0, .slice none 0 0] 26) x3)); have y4 := cell_pure hb5 (kdrew (kalloc (.cells #[.int .i64 0, .int .i64 0, .int .u64 0, .string ⟨#[]⟩, .slice none 0 0, .slice none 0 0] 26) x4)); have y5 := cell_pure hb5 (kdrew (kalloc (.cells #[.int .i64 0, .int .i64 0, .int .u64 0, .string ⟨#[]⟩, .slice none 0 0, .slice none 0 0] 26) r1)); have HO5 := Lib.hid hO5; have HB5 := Lib.hid (pure_trans HBb.out hb5); have HQ := Lib.hid ((Blk.new w1 26 #[.int .i64 0, .int .i64 0, .int .u64 0, .string ⟨#[]⟩, .slice none 0 0, .slice none 0 0]).drew.pure hb5); have q0 := HQ.out.cell 0; have q1 := HQ.out.cell 1; have q2 := HQ.out.cell 2; have q3 := HQ.out.cell 3; have q4 := HQ.out.cell 4; have q5 := HQ.out.cell 5; have p0 := HQ.out.frozen 0; have p1 := HQ.out.frozen 1; have p2 := HQ.out.frozen 2; have p3 := HQ.out.frozen 3; have p4 := HQ.out.frozen 4; have p5 := HQ.out.frozen 5; have HLT := Lib.hid (show (w1.alloc (.cells #[.int .i64 0, .int .i64 0, .int .u64 0, .string ⟨#[]⟩, .slice none 0 0, .slice none 0 0] 26)).heap.size ≤ w5.heap.size from hb5.size); clear hO5 hb5))
      all_goals
        go_wp2_with fail
        go_meet
        first
          | exact ⟨_, rfl, _, A5, c5, rfl, (((((HQ.out.set_ 0 _).set_ 1 _).set_ 2 _).set_ 3 _).set_ 4 _).set_ 5 _, (HO5.out.fr (fr_set6 w5 w1.heap.size _ _ _ _ _ _) (cut_ne (fun ad e => (HO5.out.addr ad e).2.1))).rebase le_al, Nat.le_refl _, cut_ne (fun ad e => (HO5.out.addr ad e).2.1), below_fr HB5.out (fr_set6 w5 w1.heap.size _ _ _ _ _ _) (by rintro j rfl; exact Nat.le_refl _)⟩
          | exact ⟨_, rfl, _, A5, c5, rfl, Blk.new _ _ _, HO5.out.pure ((Below.refl w5.heap.size w5).alloc (Nat.le_refl _) _), HB5.out.size, fun ad e => Nat.ne_of_lt (HO5.out.addr ad e).2.2, HB5.out.alloc HB5.out.size _⟩
    case rest =>
    obtain ⟨w2, rfl, g, A9, c9, rfl, hG, hO9, hgs, hAg, hb2⟩ := hcut
    have HG := Lib.hid hG
    have HO9 := Lib.hid hO9
    have HB2 := Lib.hid (pure_below HB0.out hb2)
    have HX2 := Lib.hid (HX0.out.pure hb2)
    have HZ2 := Lib.hid (HZ0.out.pure hb2)
    have HR2 := Lib.hid (HR0.out.pure hb2)
    have HS2 := Lib.hid (show br < w1.heap.size ∧ w1.heap.size ≤ w2.heap.size ∧ w1.heap.size ≤ g ∧ g < w2.heap.size from ⟨HT.out.2.2.1, hb2.size, hgs, hG.lt⟩)
    have HCAP := Lib.hid (show min xan 64 ≤ c9 from hO9.cap.1)
    have HA9 := Lib.hid (show ∀ ad, A9 = some ad → w1.heap.size ≤ ad.block ∧ ad.block < w2.heap.size ∧ ad.block ≠ g from fun ad e => ⟨(hO9.addr ad e).2.1, (hO9.addr ad e).2.2, hAg ad e⟩)
    clear x0 x1 x2 x3 x4 r1 hG hO9 hgs hAg hb2 hnb hnr HTX HBa HBb HX0 HZ0 HR0 HK0 HB0
    go_upto_region 4 with fail
    go_wp2_with fail
    go_loopw [6, 7] (fun s u wr => ∃ (k lf : Nat) (A : Option Addr) (c : Nat) (us : List Nv) (rs : List Tr), k ≤ xbn ∧ s = .slice A k c ∧ u = .int .i64 (k : Int) ∧ CtR wr w2.heap.size k rs A c us ∧ k + lf ≤ 1000 ∧ cutL m l left = (rs ++ (cutL m (l.drop k) lf).1, (cutL m (l.drop k) lf).2) ∧
      Blk wr rb 72 #[.int .i64 (lf : Int), .int .i64 (m : Int)] ∧ Blk wr bt 26 #[.int .i64 xk, .int .i64 xn, .int .u64 (xu : Int), .string ⟨xs.toArray⟩, .slice XA xan xac, .slice XB xbn xbc] ∧ Blk wr br 26 #[.int .i64 0, .int .i64 0, .int .u64 0, .string ⟨#[]⟩, .slice none 0 0, .slice none 0 0] ∧ Blk wr g 26 #[.int .i64 xk, .int .i64 xn, .int .u64 (xu : Int), .string ⟨(xs.take m).toArray⟩, .slice A9 (min xan 64) c9, .slice none 0 0] ∧
      IsS wr A9 (min xan 64) ((ks.take 64).map fun x => x.take m) ∧ w2.heap.size ≤ wr.heap.size ∧ Fr (fun j => j = rb) W wr) (fun _ u _ => 1000 - (intOf u).toNat)
    case atStart => exact ⟨0, left, none, 0, [], [], Nat.zero_le _, rfl, rfl, CtR.nil _ _, by omega, by simp, HR2.out, HX2.out, HZ2.out, HG.out, HO9.out.is, Nat.le_refl _, Fr.of_below HB2.out _⟩
    case round =>
      obtain ⟨k, lf, A, c, us, rs, hk, rfl, rfl, hC, hkl, hcu, hr, hx, hz, hg, hks, hsz, hfr⟩ := hrel
      have HC := Lib.hid hC
      have HCU := Lib.hid hcu
      have HR := Lib.hid hr
      have HX := Lib.hid hx
      have HZ := Lib.hid hz
      have HGG := Lib.hid hg
      have HKS := Lib.hid hks
      have HSZ := Lib.hid hsz
      have HFR := Lib.hid hfr
      have HKL := Lib.hid hkl
      clear hC hcu hr hx hz hg hks hsz hfr
      have x5 : wr.cell? ⟨bt, 5, none⟩ = some (.slice XB xbn xbc) := HX.out.cell 5
      have r0 : wr.cell? ⟨rb, 0, none⟩ = some (.int .i64 (lf : Int)) := HR.out.cell 0
      by_cases h1 : k < xbn
      · have hkn : (k : Int) < (xbn : Int) := by omega
        by_cases h2 : 0 < lf
        · obtain ⟨l', rfl⟩ : ∃ l', lf = l' + 1 := ⟨lf - 1, by omega⟩
          obtain ⟨v, hv⟩ : ∃ v, vs[k]? = some v := ⟨_, List.getElem?_eq_getElem (by have := HBN.out; omega)⟩
          obtain ⟨t', ht'⟩ : ∃ t', l[k]? = some t' := ⟨_, List.getElem?_eq_getElem (by have := HBN.out; have := HVL.out; omega)⟩
          have hs5 : (wr.setCell ⟨rb, 0, none⟩ (.int .i64 (l' : Int))).heap.size = wr.heap.size := by simp [World.setCell]
          have hf5 := Fr.setCell (S := fun j => j = rb) (Fr.refl (fun j => j = rb) wr) (p := ⟨rb, 0, none⟩) (fun _ => rfl) (.int .i64 (l' : Int))
          have hb5 : Below w0.heap.size w0 (wr.setCell ⟨rb, 0, none⟩ (.int .i64 (l' : Int))) := HW.out.trans ((HFR.out.trans hf5 (fun _ _ e => e)).belowB (fun i hi e => by have h := HRB.out.1; omega) HW.out.size)
          have hr5 : Blk (wr.setCell ⟨rb, 0, none⟩ (.int .i64 (l' : Int))) rb 72 #[.int .i64 (l' : Int), .int .i64 (m : Int)] := HR.out.set_ 0 _
          have HCD := Lib.hid (HIH.out k v t' hv ht' _ rb l' hb5 HRB.out.1 (by omega) hr5)
          have HX5 := Lib.hid (HX.out.fr hf5 (by have := HT.out; omega))
          have hI5 : IsN (wr.setCell ⟨rb, 0, none⟩ (.int .i64 (l' : Int))) XB xbn vs := HI.out.pure hb5
          obtain ⟨gv, off, e, v0, v1, v2, v3, v4, v5⟩ := isn_at hI5 hv
          have HFF := Lib.hid hf5
          have HSS := Lib.hid hs5
          have HCN := Lib.hid (show cutL m l left = ((rs ++ [(cutT m t' l').1]) ++ (cutL m (l.drop (k + 1)) (cutT m t' l').2).1, (cutL m (l.drop (k + 1)) (cutT m t' l').2).2) by
            obtain ⟨q1, q2⟩ := List.getElem?_eq_some_iff.1 ht'
            rw [HCU.out, List.drop_eq_getElem_cons q1, q2, cutL, if_neg (by omega), Nat.add_sub_cancel]
            simp)
          have HLF := Lib.hid (cutT_left m t' l').1
          have r0' : wr.cell? ⟨rb, 0, none⟩ = some (.int .i64 ((l' : Int) + 1)) := r0
          have rf : wr.frozen? ⟨rb, 0, none⟩ = false := HR.out.frozen 0
          have hl0 : (0 : Int) < (l' : Int) + 1 := by omega
          have hl1 : (l' : Int) + 1 ≤ 1000 := by have := HKL.out; omega
          have hk0 : (0 : Int) ≤ (k : Int) := by omega
          have hk1 : (k : Int) ≤ 1000 := by have := HKL.out; omega
          clear r0 hf5 hb5 hr5 hI5 hv ht' hs5
          go_upto_region 7 with fail
          clear r0' rf x5
          generalize wr.setCell ⟨rb, 0, none⟩ (.int .i64 (l' : Int)) = w5 at HCD HX5 v0 v1 v2 v3 v4 v5 HFF HSS ⊢
          have x5 : w5.cell? ⟨bt, 5, none⟩ = some (.slice XB xbn xbc) := HX5.out.cell 5
          rw [e] at x5
          have HE := Lib.hid e
          clear e
          go_wp2_with fail
          go_at_call 36
          refine HCD.out.mono ?_
          rintro e w6 ⟨y, rfl, hN6, hR6, hF6⟩
          have HN6 := Lib.hid hN6
          have HR6 := Lib.hid hR6
          have hF := HFF.out.trans hF6 (fun _ _ e => e)
          have hal := (Below.refl w6.heap.size w6).alloc (Nat.le_refl _) (.cells #[.int .i64 y.k, .int .i64 y.n, .int .u64 (y.u : Int), .string ⟨y.s.toArray⟩, .slice y.A y.an y.ac, .slice y.B y.bn y.bc] 26)
          have hF7 := hF.trans (Fr.of_below hal (fun _ => False)) (fun _ _ h => h.elim)
          have hrb : rb < w2.heap.size := by have h1 := HT.out; have h2 := HS2.out; omega
          have HF7 := Lib.hid hF7
          have HC7 := Lib.hid (HC.out.fr hF7 hrb)
          have HO7 := HC7.out.own
          have HO7 := Lib.hid HO7
          have HI7 := Lib.hid (nv_one w6 y)
          have HS7 := Lib.hid (show w2.heap.size ≤ (w6.alloc (.cells #[.int .i64 y.k, .int .i64 y.n, .int .u64 (y.u : Int), .string ⟨y.s.toArray⟩, .slice y.A y.an y.ac, .slice y.B y.bn y.bc] 26)).heap.size from Nat.le_trans HSZ.out hF7.size)
          have HRB2 := Lib.hid hrb
          clear hN6 hR6 hF hal hF7 hrb v0 v1 v2 v3 v4 v5 x5
          go_wp2_with (at_builtin; refine wpl_app _ rfl (.tmp 51) (.tmp 59) _ rfl 26 _ 6 88 Tryz.underlying24 info_nd rfl (by omega) nvc_len nvc_one _ _ _ _ _ rfl HO7.out _ _ _ _ rfl HI7.out (by omega) HS7.out ?_; intro A2 c2 w8 hown hfr hat)
          have hA7 : ∀ ad, A = some ad → w2.heap.size ≤ ad.block := fun ad e => (HC.out.own.addr ad e).2.1
          have hst := HC.out.step HF7.out HRB2.out HSZ.out (a := w5.heap.size) (by rw [HSS.out]; exact Nat.le_refl _) ((HN6.out.pure ((Below.refl w6.heap.size w6).alloc (Nat.le_refl _) _)).mono fun b hb => ⟨hb.1, Nat.lt_of_lt_of_le hb.2 (by simp)⟩) hown hfr hat
          have hnb : ∀ b, b < w2.heap.size → ¬ (∃ ad, A = some ad ∧ b = ad.block) := by
            rintro b hb ⟨ad, e, rfl⟩
            have := hA7 ad e
            omega
          have hbt := HT.out
          have hs2 := HS2.out
          have HST := Lib.hid hst
          have HR8 := Lib.hid ((HR6.out.pure ((Below.refl w6.heap.size w6).alloc (Nat.le_refl _) _)).fr hfr (hnb rb HRB2.out))
          have HX8 := Lib.hid ((HX.out.fr HF7.out (by omega)).fr hfr (hnb bt (by omega)))
          have HZ8 := Lib.hid ((HZ.out.fr HF7.out (by omega)).fr hfr (hnb br (by omega)))
          have HG8 := Lib.hid ((HGG.out.fr HF7.out (by omega)).fr hfr (hnb g (by omega)))
          have HK8 := Lib.hid ((HKS.out.fr HF7.out (fun ad e => by have := HA9.out ad e; omega)).fr hfr (fun ad e => hnb _ (HA9.out ad e).2.1))
          have HS8 := Lib.hid (Nat.le_trans HS7.out hfr.size)
          have HF8 := Lib.hid ((HFR.out.trans HF7.out (fun _ _ e => e)).trans hfr (fun i hi h => by
            obtain ⟨ad, e, rfl⟩ := h
            have h1 := hA7 ad e
            have h2 := HB2.out.size
            omega))
          clear hown hfr hat hst hnb hA7 hbt hs2
          go_wp2_with fail
          go_roundw
          case rel => exact ⟨k + 1, _, A2, c2, _, _, by omega, rfl, by go_num, HST.out, by have h1 := HLF.out; have h2 := HKL.out; omega, HCN.out, HR8.out, HX8.out, HZ8.out, HG8.out, HK8.out, HS8.out, HF8.out⟩
          case measure => simp [intOf]; omega
        · obtain rfl : lf = 0 := by omega
          have r0 : wr.cell? ⟨rb, 0, none⟩ = some (.int .i64 0) := HR.out.cell 0
          have HFIN := Lib.hid (show cutL m l left = (rs, 0) by rw [HCU.out]; cases l.drop k <;> simp [cutL])
          have g5 : wr.cell? ⟨g, 5, none⟩ = some (.slice none 0 0) := HGG.out.cell 5
          have gf : wr.frozen? ⟨g, 5, none⟩ = false := HGG.out.frozen 5
          go_upto_region 9 with fail
          have HF8 := Lib.hid (Fr.setCell (S := fun j => j = g) (Fr.refl _ wr) (p := ⟨g, 5, none⟩) (fun _ => rfl) (.slice A k c))
          have HG8 := Lib.hid (show Blk (wr.setCell ⟨g, 5, none⟩ (.slice A k c)) g 26 #[.int .i64 xk, .int .i64 xn, .int .u64 (xu : Int), .string ⟨(xs.take m).toArray⟩, .slice A9 (min xan 64) c9, .slice A k c] from HGG.out.set_ 5 _)
          generalize wr.setCell ⟨g, 5, none⟩ (.slice A k c) = w8 at HF8 HG8 ⊢
          have hbt := HT.out
          have hs2 := HS2.out
          have HZ8 := Lib.hid (HZ.out.fr HF8.out (by omega))
          clear g5 gf x5 r0
          have c0 : w8.cell? ⟨g, 0, none⟩ = some (.int .i64 xk) := HG8.out.cell 0
          have c1 : w8.cell? ⟨g, 1, none⟩ = some (.int .i64 xn) := HG8.out.cell 1
          have c2 : w8.cell? ⟨g, 2, none⟩ = some (.int .u64 (xu : Int)) := HG8.out.cell 2
          have c3 : w8.cell? ⟨g, 3, none⟩ = some (.string ⟨(xs.take m).toArray⟩) := HG8.out.cell 3
          have c4 : w8.cell? ⟨g, 4, none⟩ = some (.slice A9 (min xan 64) c9) := HG8.out.cell 4
          have c5 : w8.cell? ⟨g, 5, none⟩ = some (.slice A k c) := HG8.out.cell 5
          have q0 : w8.cell? ⟨br, 0, none⟩ = some (.int .i64 0) := HZ8.out.cell 0
          have q1 : w8.cell? ⟨br, 1, none⟩ = some (.int .i64 0) := HZ8.out.cell 1
          have q2 : w8.cell? ⟨br, 2, none⟩ = some (.int .u64 0) := HZ8.out.cell 2
          have q3 : w8.cell? ⟨br, 3, none⟩ = some (.string ⟨#[]⟩) := HZ8.out.cell 3
          have q4 : w8.cell? ⟨br, 4, none⟩ = some (.slice none 0 0) := HZ8.out.cell 4
          have q5 : w8.cell? ⟨br, 5, none⟩ = some (.slice none 0 0) := HZ8.out.cell 5
          have hfz : ∀ j, w8.frozen? ⟨br, j, none⟩ = false := fun j => HZ8.out.frozen j
          have f0 := hfz 0
          have f1 := hfz 1
          have f2 := hfz 2
          have f3 := hfz 3
          have f4 := hfz 4
          have f5 := hfz 5
          clear hfz hbt hs2
          go_wp2_with fail
          refine bodyPost_ret (v := .agg #[.int .i64 xk, .int .i64 xn, .int .u64 (xu : Int), .string ⟨(xs.take m).toArray⟩, .slice A9 (min xan 64) c9, .slice A k c]) (by simp [results, Tryz.results36, go_sem, q0, q1, q2, q3, q4, q5]) rfl ?_
          have hF9 := fr_set6 w8 br (.int .i64 xk) (.int .i64 xn) (.int .u64 (xu : Int)) (.string ⟨(xs.take m).toArray⟩) (.slice A9 (min xan 64) c9) (.slice A k c)
          generalize (((((w8.setCell ⟨br, 0, none⟩ (.int .i64 xk)).setCell ⟨br, 1, none⟩ (.int .i64 xn)).setCell ⟨br, 2, none⟩ (.int .u64 (xu : Int))).setCell ⟨br, 3, none⟩ (.string ⟨(xs.take m).toArray⟩)).setCell ⟨br, 4, none⟩ (.slice A9 (min xan 64) c9)).setCell ⟨br, 5, none⟩ (.slice A k c) = w9 at hF9 ⊢
          have hbt := HT.out
          have hs2 := HS2.out
          have hsz := HSZ.out
          have hs8 := HF8.out.size
          have hs9 := hF9.size
          have hbw := HB2.out.size
          have hkl := HKL.out
          have hA : ∀ ad, A = some ad → w2.heap.size ≤ ad.block ∧ ad.block < wr.heap.size := fun ad e => (HC.out.own.addr ad e).2
          have hlu : us.length = k := HC.out.own.1
          refine ⟨⟨xk, xn, xu, xs.take m, A9, min xan 64, c9, A, k, c⟩, rfl, ?_, ?_, ?_⟩
          · rw [cutT, HFIN.out]
            refine NodeR.mk (x := ⟨xk, xn, xu, xs.take m, A9, min xan 64, c9, A, k, c⟩) ((HKS.out.fr HF8.out (fun ad e => (HA9.out ad e).2.2)).fr hF9 (fun ad e => by have := HA9.out ad e; omega)) (fun ad e => by have := HA9.out ad e; omega) HCAP.out (show min xan 64 ≤ 1099511627776 by omega) ((HC.out.own.is.fr HF8.out (fun ad e => by have := hA ad e; omega)).fr hF9 (fun ad e => by have := hA ad e; omega)) (fun ad e => by have := hA ad e; omega) HC.out.own.cap.1 (show k ≤ 1099511627776 by omega) (by rw [hlu]; exact HC.out.len.symm) (fun i v t hv ht => ((HC.out.kids i v t hv ht).keep fun a u hc hp => cell_fr hF9 (cell_fr HF8.out hc (by omega)) (by omega)).mono fun b hb => by omega)
          · rw [cutT, HFIN.out]
            exact (HR.out.fr HF8.out (by omega)).fr hF9 (by omega)
          · exact (HFR.out.trans HF8.out (fun i hi e => by omega)).trans hF9 (fun i hi e => by omega)
      · obtain rfl : xbn = k := by omega
        have HFIN := Lib.hid (show cutL m l left = (rs, lf) by rw [HCU.out, List.drop_of_length_le (by have h1 := HBN.out; have h2 := HVL.out; omega)]; simp [cutL])
        have g5 : wr.cell? ⟨g, 5, none⟩ = some (.slice none 0 0) := HGG.out.cell 5
        have gf : wr.frozen? ⟨g, 5, none⟩ = false := HGG.out.frozen 5
        go_upto_region 9 with fail
        have HF8 := Lib.hid (Fr.setCell (S := fun j => j = g) (Fr.refl _ wr) (p := ⟨g, 5, none⟩) (fun _ => rfl) (.slice A xbn c))
        have HG8 := Lib.hid (show Blk (wr.setCell ⟨g, 5, none⟩ (.slice A xbn c)) g 26 #[.int .i64 xk, .int .i64 xn, .int .u64 (xu : Int), .string ⟨(xs.take m).toArray⟩, .slice A9 (min xan 64) c9, .slice A xbn c] from HGG.out.set_ 5 _)
        generalize wr.setCell ⟨g, 5, none⟩ (.slice A xbn c) = w8 at HF8 HG8 ⊢
        have hbt := HT.out
        have hs2 := HS2.out
        have HZ8 := Lib.hid (HZ.out.fr HF8.out (by omega))
        clear g5 gf x5 r0
        have c0 : w8.cell? ⟨g, 0, none⟩ = some (.int .i64 xk) := HG8.out.cell 0
        have c1 : w8.cell? ⟨g, 1, none⟩ = some (.int .i64 xn) := HG8.out.cell 1
        have c2 : w8.cell? ⟨g, 2, none⟩ = some (.int .u64 (xu : Int)) := HG8.out.cell 2
        have c3 : w8.cell? ⟨g, 3, none⟩ = some (.string ⟨(xs.take m).toArray⟩) := HG8.out.cell 3
        have c4 : w8.cell? ⟨g, 4, none⟩ = some (.slice A9 (min xan 64) c9) := HG8.out.cell 4
        have c5 : w8.cell? ⟨g, 5, none⟩ = some (.slice A xbn c) := HG8.out.cell 5
        have q0 : w8.cell? ⟨br, 0, none⟩ = some (.int .i64 0) := HZ8.out.cell 0
        have q1 : w8.cell? ⟨br, 1, none⟩ = some (.int .i64 0) := HZ8.out.cell 1
        have q2 : w8.cell? ⟨br, 2, none⟩ = some (.int .u64 0) := HZ8.out.cell 2
        have q3 : w8.cell? ⟨br, 3, none⟩ = some (.string ⟨#[]⟩) := HZ8.out.cell 3
        have q4 : w8.cell? ⟨br, 4, none⟩ = some (.slice none 0 0) := HZ8.out.cell 4
        have q5 : w8.cell? ⟨br, 5, none⟩ = some (.slice none 0 0) := HZ8.out.cell 5
        have hfz : ∀ j, w8.frozen? ⟨br, j, none⟩ = false := fun j => HZ8.out.frozen j
        have f0 := hfz 0
        have f1 := hfz 1
        have f2 := hfz 2
        have f3 := hfz 3
        have f4 := hfz 4
        have f5 := hfz 5
        clear hfz hbt hs2
        go_wp2_with fail
        refine bodyPost_ret (v := .agg #[.int .i64 xk, .int .i64 xn, .int .u64 (xu : Int), .string ⟨(xs.take m).toArray⟩, .slice A9 (min xan 64) c9, .slice A xbn c]) (by simp [results, Tryz.results36, go_sem, q0, q1, q2, q3, q4, q5]) rfl ?_
        have hF9 := fr_set6 w8 br (.int .i64 xk) (.int .i64 xn) (.int .u64 (xu : Int)) (.string ⟨(xs.take m).toArray⟩) (.slice A9 (min xan 64) c9) (.slice A xbn c)
        generalize (((((w8.setCell ⟨br, 0, none⟩ (.int .i64 xk)).setCell ⟨br, 1, none⟩ (.int .i64 xn)).setCell ⟨br, 2, none⟩ (.int .u64 (xu : Int))).setCell ⟨br, 3, none⟩ (.string ⟨(xs.take m).toArray⟩)).setCell ⟨br, 4, none⟩ (.slice A9 (min xan 64) c9)).setCell ⟨br, 5, none⟩ (.slice A xbn c) = w9 at hF9 ⊢
        have hbt := HT.out
        have hs2 := HS2.out
        have hsz := HSZ.out
        have hs8 := HF8.out.size
        have hs9 := hF9.size
        have hbw := HB2.out.size
        have hkl := HKL.out
        have hA : ∀ ad, A = some ad → w2.heap.size ≤ ad.block ∧ ad.block < wr.heap.size := fun ad e => (HC.out.own.addr ad e).2
        have hlu : us.length = xbn := HC.out.own.1
        refine ⟨⟨xk, xn, xu, xs.take m, A9, min xan 64, c9, A, xbn, c⟩, rfl, ?_, ?_, ?_⟩
        · rw [cutT, HFIN.out]
          refine NodeR.mk (x := ⟨xk, xn, xu, xs.take m, A9, min xan 64, c9, A, xbn, c⟩) ((HKS.out.fr HF8.out (fun ad e => (HA9.out ad e).2.2)).fr hF9 (fun ad e => by have := HA9.out ad e; omega)) (fun ad e => by have := HA9.out ad e; omega) HCAP.out (show min xan 64 ≤ 1099511627776 by omega) ((HC.out.own.is.fr HF8.out (fun ad e => by have := hA ad e; omega)).fr hF9 (fun ad e => by have := hA ad e; omega)) (fun ad e => by have := hA ad e; omega) HC.out.own.cap.1 (show xbn ≤ 1099511627776 by omega) (by rw [hlu]; exact HC.out.len.symm) (fun i v t hv ht => ((HC.out.kids i v t hv ht).keep fun a u hc hp => cell_fr hF9 (cell_fr HF8.out hc (by omega)) (by omega)).mono fun b hb => by omega)
        · rw [cutT, HFIN.out]
          exact (HR.out.fr HF8.out (by omega)).fr hF9 (by omega)
        · exact (HFR.out.trans HF8.out (fun i hi e => by omega)).trans hF9 (fun i hi e => by omega)
end Go.Proofs.YtfoifdoaleaekaaGreat
