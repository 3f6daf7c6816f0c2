/-
  Package key: sorted, of a node that is no map, and of a map.
-/
import Derived.Test.YtfoifdoaleaekaaGreatQf31
import Derived.Deep.RegionHeld3
namespace Go.Proofs.YtfoifdoaleaekaaGreat
open Go.RowKit Go.Acc
theorem lset' {w : World} {p q : Addr} {u v : Value} (h : w.cell? q = some v) (hne : q.block ≠ p.block) : (w.setCell p u).cell? q = some v :=
  (World.cell?_of_block (w := w) (Below.heap_setCell w p u q.block hne)).trans h
theorem fill2 {α : Type} (f : Nat → α) (z : α) {ps : List Nat} {n k : Nat} (hl : ps.length = n) (hk : k < n) : ((ps.take k).map f ++ List.replicate (n - k) z).set k (f (ps[k]'(by omega))) = (ps.take (k + 1)).map f ++ List.replicate (n - (k + 1)) z := by
  have e1 : ((ps.take k).map f).length = k := by simp; omega
  have e2 : n - k = (n - (k + 1)) + 1 := by omega
  rw [List.set_append_right _ _ (by omega), e1, Nat.sub_self, e2, List.replicate_succ, List.set_cons_zero, List.take_succ_eq_append_getElem (by omega), List.map_append]
  simp
theorem cut_set {α : Type} {l : List α} {i : Nat} (x : α) (h : i < l.length) : l.take i ++ [x] ++ l.drop (i + 1) = l.set i x := by
  rw [List.set_eq_take_append_cons_drop, if_pos h]
  simp
theorem getD_at {α : Type} {l : List α} {i : Nat} (d : α) (h : i < l.length) : l.getD i d = l[i] := by
  rw [List.getD_eq_getElem?_getD, List.getElem?_eq_getElem h]
  rfl
theorem getD_map' {α β : Type} (f : α → β) (l : List α) (i : Nat) (d : α) : (l.map f).getD i (f d) = f (l.getD i d) := by
  rw [List.getD_eq_getElem?_getD, List.getD_eq_getElem?_getD, List.getElem?_map]
  cases l[i]? <;> rfl
theorem lsetB {w : World} {g i g' j : Nat} {u v : Value} (h : w.cell? ⟨g, i, none⟩ = some v) (hne : g ≠ g') : (w.setCell ⟨g', j, none⟩ u).cell? ⟨g, i, none⟩ = some v := lset' h hne
structure SrF (W W0 : World) (p : Nat → Prop) (q : Nat → Nat → Prop) (bt br : Nat) (A1 A : Option Addr) : Prop where
  qs : ∀ i b, q i b → p b ∧ b < W.heap.size
  bts : W.heap.size = bt ∧ bt + 1 = br ∧ br < W0.heap.size
  off : ∀ ad, A = some ad → ad.block < W0.heap.size ∧ ad.block ≠ bt ∧ ad.block ≠ br ∧ (∀ i, ¬ q i ad.block) ∧ (p ad.block ∨ W.heap.size ≤ ad.block)
  key : ∀ ad, A1 = some ad → ad.block < W0.heap.size ∧ ad.block ≠ bt ∧ ad.block ≠ br ∧ (p ad.block ∨ W.heap.size ≤ ad.block) ∧ (∀ i, ¬ q i ad.block) ∧ ∀ a, A = some a → ad.block ≠ a.block
  fr : Fr p W W0
  apart : ∀ i j b, i ≠ j → q i b → ¬ q j b
theorem SrF.no {W W0 : World} {p : Nat → Prop} {q : Nat → Nat → Prop} {bt br : Nat} {A1 A : Option Addr} (h : SrF W W0 p q bt br A1 A) {b : Nat} (hb : b = bt ∨ b = br) : ¬ ((∃ i, q i b) ∨ ∃ ad, A = some ad ∧ b = ad.block) := by
  rintro (⟨i, hi⟩ | ⟨ad, e, rfl⟩)
  · have h1 := (h.qs i b hi).2
    have h2 := h.bts
    omega
  · have h1 := h.off ad e
    omega
theorem SrF.done {W W0 w : World} {p : Nat → Prop} {q : Nat → Nat → Prop} {bt br : Nat} {A1 A : Option Addr} {n c n1 c1 : Nat} {vs us : List Nv} {ts : List Tr} {ks : List (List UInt8)} (h : SrF W W0 p q bt br A1 A) (hs : SrR W0 w q A n c n vs ts us) (hk : IsS w A1 n1 ks) (hc : n1 ≤ c1) (h1 : n1 ≤ 1099511627776) (hn : n ≤ 1099511627776) (hl : ts.length = n)
    (k m : Int) (u : Nat) (s : List UInt8) {w' : World} (hF : Fr (fun j => j = br) w w') : NodeR w' (fun b => p b ∨ (W.heap.size ≤ b ∧ b < w'.heap.size)) ⟨k, m, u, s, A1, n1, c1, A, n, c⟩ (.mk k m u s ks (ts.map sortT)) ∧ Fr p W w' := by
  have e1 := h.bts
  have e2 := hs.fr.size
  have e3 := hF.size
  refine ⟨NodeR.mk (x := ⟨k, m, u, s, A1, n1, c1, A, n, c⟩) (hk.fr hF fun ad e => ?_) (fun ad e => ?_) hc h1 (hs.own.is.fr hF fun ad e => ?_) (fun ad e => ?_) hs.own.cap.1 hn (by rw [List.length_map, hl]; exact hs.own.1) (fun i v t hv ht => ?_), ?_⟩
  · have := h.key ad e
    omega
  · have := h.key ad e
    rcases this.2.2.2.1 with hh | hh
    · exact .inl hh
    · exact .inr ⟨hh, by omega⟩
  · have := h.off ad e
    omega
  · have := h.off ad e
    rcases this.2.2.2.2 with hh | hh
    · exact .inl hh
    · exact .inr ⟨hh, by omega⟩
  · have hi : i < n := by
      have := (List.getElem?_eq_some_iff.1 hv).1
      rw [hs.own.1] at this
      exact this
    rw [List.getElem?_map] at ht
    cases hti : ts[i]? with
    | none => rw [hti] at ht; simp at ht
    | some t' =>
      rw [hti] at ht
      simp at ht
      subst ht
      refine ((hs.done i v t' hi hv hti).keep fun a u hc hp => cell_fr hF hc ?_).mono fun b hb => ?_
      · rcases hp with hp | hp
        · have := (h.qs _ _ hp).2
          omega
        · omega
      · rcases hb with hb | hb
        · exact .inl (h.qs _ _ hb).1
        · exact .inr ⟨by have := h.fr.size; omega, by omega⟩
  · refine (h.fr.trans hs.fr (fun i hi hh => ?_)).trans hF (fun i hi hh => by omega)
    rcases hh with ⟨j, hj⟩ | ⟨ad, e, rfl⟩
    · exact (h.qs _ _ hj).1
    · rcases (h.off ad e).2.2.2.2 with hh | hh
      · exact hh
      · omega
set_option maxRecDepth 100000 in
set_option maxHeartbeats 4000000 in
theorem sorted_spec {w0 : World} {p : Nat → Prop} {x : Nv} {t : Tr} (h : NodeX w0 p x t) : (∀ k, p k → k < w0.heap.size) → Val t → t.cost ≤ 1000000 → ∀ W, (∀ b, p b → W.heap[b]? = w0.heap[b]?) → w0.heap.size ≤ W.heap.size → Calls Tryz.prog 52 #[.agg #[.int .i64 x.k, .int .i64 x.n, .int .u64 (x.u : Int), .string ⟨x.s.toArray⟩, .slice x.A x.an x.ac, .slice x.B x.bn x.bc]] W (SrtW W p t) := by
  induction h with
  | @mk p x ks l vs q h1 ha hac hx h2 hb hy hab hq hd hl hc ih =>
    intro hp hv hcost W hW hsz
    obtain ⟨xk, xn, xu, xs, XA, xan, xac, XB, xbn, xbc⟩ := x
    have HIH := Lib.hid (show ∀ i v t', vs[i]? = some v → l[i]? = some t' → ∀ W', (∀ b, q i b → W'.heap[b]? = w0.heap[b]?) → w0.heap.size ≤ W'.heap.size → Calls Tryz.prog 52 #[.agg #[.int .i64 v.k, .int .i64 v.n, .int .u64 (v.u : Int), .string ⟨v.s.toArray⟩, .slice v.A v.an v.ac, .slice v.B v.bn v.bc]] W' (SrtW W' (q i) t') from fun i v t' hv' ht' => ih i v t' hv' ht' (fun k hk => hp k (hq i k hk)) (by
      cases hv with
      | mk _ _ _ _ hvl => exact hvl t' (List.mem_of_getElem? ht')) (by
      have := costL_mem (List.mem_of_getElem? ht')
      unfold Tr.cost at hcost
      omega))
    replace h1 : IsS w0 XA xan ks := h1
    replace h2 : OwnT w0 0 XB xbn xbc vs := h2
    replace ha : ∀ ad, XA = some ad → p ad.block ∧ ∀ i, ¬ q i ad.block := ha
    replace hb : ∀ ad, XB = some ad → p ad.block ∧ ∀ i, ¬ q i ad.block := hb
    replace hac : xan ≤ xac := hac
    replace hx : xan ≤ 1099511627776 := hx
    replace hy : xbn ≤ 1099511627776 := hy
    replace hab : ∀ a b, XA = some a → XB = some b → a.block ≠ b.block := hab
    have hK : IsS W XA xan ks := ⟨h1.1, rd_by h1.2 (fun ad e => (ha ad e).1) fun a u hc hpa => by rw [World.cell?_of_block (hW _ hpa)]; exact hc⟩
    have hO : OwnT W 0 XB xbn xbc vs := ownt_by h2 fun ad e => hW _ (hb ad e).1
    have hBl := below_two W (.cells #[.int .i64 xk, .int .i64 xn, .int .u64 (xu : Int), .string ⟨xs.toArray⟩, .slice XA xan xac, .slice XB xbn xbc] 26) (.cells #[.int .i64 0, .int .i64 0, .int .u64 0, .string ⟨#[]⟩, .slice none 0 0, .slice none 0 0] 26)
    have HX0 := Lib.hid ((Blk.new W 26 #[.int .i64 xk, .int .i64 xn, .int .u64 (xu : Int), .string ⟨xs.toArray⟩, .slice XA xan xac, .slice XB xbn xbc]).alloc (.cells #[.int .i64 0, .int .i64 0, .int .u64 0, .string ⟨#[]⟩, .slice none 0 0, .slice none 0 0] 26))
    have HR0 := Lib.hid (Blk.new_ (w := W.alloc (.cells #[.int .i64 xk, .int .i64 xn, .int .u64 (xu : Int), .string ⟨xs.toArray⟩, .slice XA xan xac, .slice XB xbn xbc] 26)) (g := W.heap.size + 1) (by simp) 26 #[.int .i64 0, .int .i64 0, .int .u64 0, .string ⟨#[]⟩, .slice none 0 0, .slice none 0 0])
    have HB0 := Lib.hid hBl
    have HK0 := Lib.hid (hK.pure hBl)
    have HO0 := Lib.hid (hO.pure hBl)
    have HVL := Lib.hid hl
    have HOL := Lib.hid (show vs.length = xbn from h2.1)
    have HKL := Lib.hid (show ks.length = xan from by have := h1.1; simpa using this)
    have HPW := Lib.hid (show (∀ k, p k → k < W.heap.size) ∧ (∀ i k, q i k → p k) ∧ (∀ i j k, i ≠ j → q i k → ¬ q j k) from ⟨fun k hk => Nat.lt_of_lt_of_le (hp k hk) hsz, hq, hd⟩)
    have HA := Lib.hid ha
    have HBB := Lib.hid hb
    have HAB := Lib.hid hab
    have HWW := Lib.hid (And.intro hW hsz)
    have HVT := Lib.hid hv
    have HCO := Lib.hid hcost
    by_cases h17 : xk = 17
    · obtain rfl := h17
      have hv17 := hv
      cases hv with
      | mk g1 _ _ hnd _ =>
      have glen : ks.length = l.length := by
        simp only [suchT, Bool.and_eq_true, decide_eq_true_eq] at g1
        obtain ⟨⟨⟨_, glen⟩, _⟩, _⟩ := g1
        exact glen rfl
      have hnn : xan = xbn := by
        have a1 := HKL.out
        have a2 := HOL.out
        omega
      subst hnn
      have hsm : xan ≤ 1000000 := by
        have h1 := costL_len l
        have h2 : Tr.cost (.mk 17 xn xu xs ks l) = 64 + 2 * xs.length + keysCost ks + Tr.costL l := by rw [Tr.cost]
        have h3 : l.length = xan := by rw [← hl]; exact HOL.out
        have hcost : Tr.cost (.mk 17 xn xu xs ks l) ≤ 1000000 := hcost
        omega
      have HND := Lib.hid hnd
      have HVL2 := Lib.hid (show l.length = xan by rw [← hl]; exact HOL.out)
      obtain ⟨Z, hZ, hmk1⟩ := make_s xan (by omega)
      obtain ⟨Y, hY, hmk2⟩ := make_nd xan (by omega)
      have HZ := Lib.hid hZ
      have HY := Lib.hid hY
      clear ih h1 ha h2 hb hy hab hq hd hl hc hp hv17 hcost hW hsz hK hO hBl hac hx g1 hnd glen hZ hY
      go_enter Tryz.func52, Tryz.ntmps52
      go_upto_region 1 with fail
      generalize (W.alloc (.cells #[.int .i64 17, .int .i64 xn, .int .u64 (xu : Int), .string ⟨xs.toArray⟩, .slice XA xan xac, .slice XB xan xbc] 26)).alloc (.cells #[.int .i64 0, .int .i64 0, .int .u64 0, .string ⟨#[]⟩, .slice none 0 0, .slice none 0 0] 26) = Wa at HB0 HX0 HR0 HK0 HO0 ⊢
      generalize hbt : W.heap.size = bt at HX0 HR0 ⊢
      generalize hbr : bt + 1 = br at HR0 ⊢
      have HBT := Lib.hid (show W.heap.size = bt ∧ bt + 1 = br ∧ br < Wa.heap.size from ⟨hbt, hbr, HR0.out.lt⟩)
      have HLT := Lib.hid (show (∀ ad, XA = some ad → ad.block < W.heap.size) ∧ ∀ ad, XB = some ad → ad.block < W.heap.size from ⟨fun ad e => HPW.out.1 _ (HA.out ad e).1, fun ad e => HPW.out.1 _ (HBB.out ad e).1⟩)
      clear hbt hbr
      have c0 : Wa.cell? ⟨bt, 0, none⟩ = some (.int .i64 17) := HX0.out.cell 0
      have c4 : Wa.cell? ⟨bt, 4, none⟩ = some (.slice XA xan xac) := HX0.out.cell 4
      go_wp2_with fail
      go_at_call 29
      have hks : ks.length = xan := HKL.out
      refine (order_spec XA xan xac ks _ HK0.out (fun ad e => by have := HLT.out.1 ad e; have := HB0.out.size; omega) hsm HND.out).mono ?_
      rintro e W1 ⟨Ap, cp, ps, rfl, hO1, hperm, hasc, hB1⟩
      rw [hks] at hO1 hperm ⊢
      have HO1 := Lib.hid hO1
      have HPERM := Lib.hid hperm
      have HASC := Lib.hid hasc
      have HPL := Lib.hid (show ps.length = xan by have := hperm.length_eq; simpa using this)
      have HPM := Lib.hid (show ∀ p ∈ ps, p < xan from fun p h => List.mem_range.1 (hperm.mem_iff.1 h))
      have HPN := Lib.hid (show ps.Nodup from hperm.nodup_iff.2 List.nodup_range)
      have HB1 := Lib.hid (pure_below HB0.out hB1)
      have HX1 := Lib.hid (HX0.out.pure hB1)
      have HR1 := Lib.hid (HR0.out.pure hB1)
      have HK1 := Lib.hid (HK0.out.pure hB1)
      have HOW1 := Lib.hid (HO0.out.pure hB1)
      have HSZ1 := Lib.hid (show Wa.heap.size ≤ W1.heap.size from hB1.size)
      clear hO1 hperm hasc hB1 c0 c4 hks HX0 HR0 HK0 HO0
      go_upto_region 3 with fail
      go_cut [5, 6] (fun u5 u6 wx => ∃ wy, wy = wx ∧ Two2 W1.heap.size xan (List.replicate xan []) (List.replicate xan nv0) u5 u6 wx ∧ Below W1.heap.size W1 wx)
      case first =>
        go_region_held3 (fun _ => True) (trivial) (fail)
        all_goals
          go_wp2_with fail
          go_meet
          first
            | exact ⟨_, rfl, two2_a (by omega) HZ.out HY.out, (below_two _ _ _).drew⟩
            | exact ⟨_, rfl, two2_b (by omega) HZ.out HY.out, (below_two _ _ _).drew⟩
      case rest =>
      obtain ⟨W2, rfl, ⟨gk, gl, rfl, rfl, hK2, hL2, hne⟩, hB2⟩ := hcut
      have HK2 := Lib.hid hK2
      have HL2 := Lib.hid hL2
      have HGN := Lib.hid (show gk ≠ gl ∧ W1.heap.size ≤ gk ∧ W1.heap.size ≤ gl ∧ gk < W2.heap.size ∧ gl < W2.heap.size from ⟨hne, (hK2.addr _ rfl).2.1, (hL2.addr _ rfl).2.1, (hK2.addr _ rfl).2.2, (hL2.addr _ rfl).2.2⟩)
      have HB2 := Lib.hid (pure_below HB1.out hB2)
      have HX2 := Lib.hid (HX1.out.pure hB2)
      have HR2 := Lib.hid (HR1.out.pure hB2)
      have HKS2 := Lib.hid (HK1.out.pure hB2)
      have HOW2 := Lib.hid (HOW1.out.pure hB2)
      have HPS2 := Lib.hid (HO1.out.pure hB2)
      have HSZ2 := Lib.hid (show W1.heap.size ≤ W2.heap.size from hB2.size)
      have HAP := Lib.hid (show ∀ ad, Ap = some ad → ad.block < W1.heap.size ∧ Wa.heap.size ≤ ad.block from fun ad e => ⟨(HO1.out.addr ad e).2.2, (HO1.out.addr ad e).2.1⟩)
      clear hK2 hL2 hne hB2 HX1 HR1 HK1 HOW1 HO1 hmk1 hmk2
      go_upto_region 4 with fail
      go_wp2_with fail
      go_loopw [28] (fun uu wr => ∃ k : Nat, k ≤ xan ∧ uu = .int .i64 (k : Int) ∧ OwnS wr 0 (some ⟨gk, 0, none⟩) xan xan ((ps.take k).map (fun p => ks.getD p []) ++ List.replicate (xan - k) []) ∧ OwnT wr 0 (some ⟨gl, 0, none⟩) xan xan ((ps.take k).map (fun p => vs.getD p nv0) ++ List.replicate (xan - k) nv0) ∧ Fr (fun j => j = gk ∨ j = gl) W2 wr) (fun uu _ => xan - (intOf uu).toNat)
      case atStart => exact ⟨0, Nat.zero_le _, rfl, by simpa using HK2.out.rebase (Nat.zero_le _), by simpa using HL2.out.rebase (Nat.zero_le _), Fr.refl _ _⟩
      case round =>
        obtain ⟨k, hk, rfl, hok, hol, hfr⟩ := hrel
        have HOK := Lib.hid hok
        have HOL2 := Lib.hid hol
        have HFR := Lib.hid hfr
        have hng : ∀ b, b < W1.heap.size → ¬ (b = gk ∨ b = gl) := fun b hb h => by have h1 := HGN.out; omega
        have HXR := Lib.hid (HX2.out.fr hfr (hng _ (by have h1 := HBT.out; have h2 := HSZ1.out; omega)))
        have HRR := Lib.hid (HR2.out.fr hfr (hng _ (by have h1 := HBT.out; have h2 := HSZ1.out; omega)))
        have HKSR := Lib.hid (HKS2.out.fr hfr (fun ad e => hng _ (by have h1 := HLT.out.1 ad e; have h2 := HSZ1.out; have h3 := HBT.out; omega)))
        have HOWR := Lib.hid (HOW2.out.fr hfr (fun ad e => hng _ (by have h1 := HLT.out.2 ad e; have h2 := HSZ1.out; have h3 := HBT.out; omega)))
        have HPSR := Lib.hid (HPS2.out.fr hfr (fun ad e => hng _ (HAP.out ad e).1))
        clear hok hol hfr hng
        by_cases hlt : k < xan
        · obtain ⟨bp, op, ep, hkp, y0⟩ := isi_at HPSR.out.is hlt
          have hp := HPM.out ps[k] (List.getElem_mem _)
          have hfk := fill2 (fun p => ks.getD p []) [] HPL.out hlt
          have hfl := fill2 (fun p => vs.getD p nv0) nv0 HPL.out hlt
          generalize ps[k] = p' at y0 hp hfk hfl
          obtain ⟨b1, o1, e1, hk1, z⟩ := iss_at HKSR.out hp
          obtain ⟨v, hv⟩ : ∃ v, vs[p']? = some v := ⟨_, List.getElem?_eq_getElem (by have := HOL.out; omega)⟩
          obtain ⟨b2, o2, e2, v0, v1, v2, v3, v4, v5⟩ := isn_at HOWR.out.is hv
          have ek : ks.getD p' [] = ks[p'] := getD_at _ hk1
          have ev : vs.getD p' nv0 = v := by rw [List.getD_eq_getElem?_getD, hv]; rfl
          rw [ek] at hfk
          rw [ev] at hfl
          generalize ks[p'] = s at z hfk
          have HFK := Lib.hid hfk
          have HFL := Lib.hid hfl
          obtain ⟨⟨a, ha⟩, fs, hnk⟩ := own_store stc_len HOK.out hlt s (.string ⟨s.toArray⟩) rfl
          obtain ⟨hex, hfz, hnl⟩ := own_store6 HOL2.out hlt v
          obtain ⟨a0, ha0⟩ := hex 0 (by omega)
          obtain ⟨a1, ha1⟩ := hex 1 (by omega)
          obtain ⟨a2, ha2⟩ := hex 2 (by omega)
          obtain ⟨a3, ha3⟩ := hex 3 (by omega)
          obtain ⟨a4, ha4⟩ := hex 4 (by omega)
          obtain ⟨a5, ha5⟩ := hex 5 (by omega)
          rw [Nat.add_zero] at ha0
          have f0 := hfz (k * 6)
          have f1 := hfz (k * 6 + 1)
          have f2 := hfz (k * 6 + 2)
          have f3 := hfz (k * 6 + 3)
          have f4 := hfz (k * 6 + 4)
          have f5 := hfz (k * 6 + 5)
          have n1 : b1 ≠ gk ∧ b1 ≠ gl := by have h1 := HLT.out.1 _ e1; have h2 := HSZ1.out; have h3 := HBT.out; have h4 := HGN.out; have h1 : b1 < W.heap.size := h1; omega
          have n2 : b2 ≠ gk ∧ b2 ≠ gl := by have h1 := HLT.out.2 _ e2; have h2 := HSZ1.out; have h3 := HBT.out; have h4 := HGN.out; have h1 : b2 < W.heap.size := h1; omega
          have n3 : bt ≠ gk ∧ bt ≠ gl := by have h2 := HSZ1.out; have h3 := HBT.out; have h4 := HGN.out; omega
          obtain ⟨n1, n1'⟩ := n1
          obtain ⟨n2, n2'⟩ := n2
          obtain ⟨n3, n3'⟩ := n3
          have n4 : gk ≠ gl := HGN.out.1
          have n4' : gl ≠ gk := fun h => n4 h.symm
          have c4 : wr.cell? ⟨bt, 4, none⟩ = some (.slice (some ⟨b1, o1, none⟩) xan xac) := by rw [← e1]; exact HXR.out.cell 4
          have c5 : wr.cell? ⟨bt, 5, none⟩ = some (.slice (some ⟨b2, o2, none⟩) xan xbc) := by rw [← e2]; exact HXR.out.cell 5
          have hp0 : (0 : Int) ≤ (p' : Int) := by omega
          have hpn : (p' : Int) < (xan : Int) := by omega
          have hk0 : (0 : Int) ≤ (k : Int) := by omega
          have hkn : (k : Int) < (xan : Int) := by omega
          rw [ep]
          clear hex hfz hnk hnl ek ev hfk hfl hv ep e1 e2 hkp hk1 hp
          go_upto_region 7 with fail
          clear y0
          go_region_held3 (fun w' => w'.cell? ⟨bt, 4, none⟩ = some (.slice (some ⟨b1, o1, none⟩) xan xac) ∧ w'.cell? ⟨bt, 5, none⟩ = some (.slice (some ⟨b2, o2, none⟩) xan xbc) ∧ w'.cell? ⟨b1, o1 + p', none⟩ = some (.string ⟨s.toArray⟩) ∧ w'.cell? ⟨b2, o2 + p' * 6, none⟩ = some (.int .i64 v.k) ∧ w'.cell? ⟨b2, o2 + p' * 6 + 1, none⟩ = some (.int .i64 v.n) ∧ w'.cell? ⟨b2, o2 + p' * 6 + 2, none⟩ = some (.int .u64 (v.u : Int)) ∧ w'.cell? ⟨b2, o2 + p' * 6 + 3, none⟩ = some (.string ⟨v.s.toArray⟩) ∧ w'.cell? ⟨b2, o2 + p' * 6 + 4, none⟩ = some (.slice v.A v.an v.ac) ∧ w'.cell? ⟨b2, o2 + p' * 6 + 5, none⟩ = some (.slice v.B v.bn v.bc)) ((with_reducible refine ⟨?_, ?_, ?_, ?_, ?_, ?_, ?_, ?_, ?_⟩) <;> (repeat (first | with_reducible assumption | with_reducible refine kdrew ?_ | with_reducible refine lsetB ?_ ?_))) (fail)
          have hF1 := Fr.setCell (S := fun j => j = gk) (Fr.refl _ wr) (p := ⟨gk, k, none⟩) (fun _ => rfl) (.string ⟨s.toArray⟩)
          have hO1 := (own_store stc_len HOK.out hlt s (.string ⟨s.toArray⟩) rfl).2.2
          rw [cut_set _ (by rw [HOK.out.1]; exact hlt), HFK.out] at hO1
          have hO2 := HOL2.out.fr hF1 (fun ad e => by injection e with e; subst e; exact n4')
          have hO3 := (own_store6 hO2 hlt v).2.2
          rw [HFL.out] at hO3
          have hF2 := fr_at6 (wr.setCell ⟨gk, k, none⟩ (.string ⟨s.toArray⟩)) gl (k * 6) v
          have hF3 := (HFR.out.trans hF1 (fun i _ e => .inl e)).trans hF2 (fun i _ e => .inr e)
          have hO4 := hO1.fr hF2 (fun ad e => by injection e with e; subst e; exact n4)
          clear hF1 hO1 hO2 hF2 fs f0 f1 f2 f3 f4 f5 ha ha0 ha1 ha2 ha3 ha4 ha5 c4 c5 z v0 v1 v2 v3 v4 v5
          generalize ((((((((wr.setCell ⟨gk, k, none⟩ (.string ⟨s.toArray⟩))).setCell ⟨gl, k * 6, none⟩ (.int .i64 (v).k)).setCell ⟨gl, k * 6 + 1, none⟩ (.int .i64 (v).n)).setCell ⟨gl, k * 6 + 2, none⟩ (.int .u64 ((v).u : Int))).setCell ⟨gl, k * 6 + 3, none⟩ (.string ⟨(v).s.toArray⟩)).setCell ⟨gl, k * 6 + 4, none⟩ (.slice (v).A (v).an (v).ac)).setCell ⟨gl, k * 6 + 5, none⟩ (.slice (v).B (v).bn (v).bc)) = wB at hO3 hF3 hO4 ⊢
          have HO3 := Lib.hid hO3
          have HO4 := Lib.hid hO4
          have HF3 := Lib.hid hF3
          clear hO3 hO4 hF3
          have hn40 : xan ≤ 1099511627776 := by omega
          go_wp2_with fail
          go_roundw
          case rel => exact ⟨k + 1, by omega, by go_num, HO4.out.pure (Below.refl _ _).drew, HO3.out.pure (Below.refl _ _).drew, HF3.out.drew⟩
          case measure => simp [intOf]; omega
        · obtain rfl : xan = k := by omega
          have hrep : (xan - xan) = 0 := Nat.sub_self xan
          have htk : ps.take xan = ps := List.take_of_length_le (by have := HPL.out; omega)
          rw [hrep, htk, List.replicate_zero, List.append_nil] at HOK HOL2
          have c4 : wr.cell? ⟨bt, 4, none⟩ = some (.slice XA xan xac) := HXR.out.cell 4
          have c5 : wr.cell? ⟨bt, 5, none⟩ = some (.slice XB xan xbc) := HXR.out.cell 5
          have f4 : wr.frozen? ⟨bt, 4, none⟩ = false := HXR.out.frozen 4
          have f5 : wr.frozen? ⟨bt, 5, none⟩ = false := HXR.out.frozen 5
          clear hrep htk
          go_upto_region 10 with fail
          have hF1 := Fr.setCell (S := fun j => j = bt) (Fr.refl _ wr) (p := ⟨bt, 4, none⟩) (fun _ => rfl) (.slice (some ⟨gk, 0, none⟩) xan xan)
          have hF2 := Fr.setCell (S := fun j => j = bt) hF1 (p := ⟨bt, 5, none⟩) (fun _ => rfl) (.slice (some ⟨gl, 0, none⟩) xan xan)
          have HX := Lib.hid (show Blk ((wr.setCell ⟨bt, 4, none⟩ (.slice (some ⟨gk, 0, none⟩) xan xan)).setCell ⟨bt, 5, none⟩ (.slice (some ⟨gl, 0, none⟩) xan xan)) bt 26 #[.int .i64 17, .int .i64 xn, .int .u64 (xu : Int), .string ⟨xs.toArray⟩, .slice (some ⟨gk, 0, none⟩) xan xan, .slice (some ⟨gl, 0, none⟩) xan xan] from (HXR.out.set_ 4 _).set_ 5 _)
          generalize (wr.setCell ⟨bt, 4, none⟩ (.slice (some ⟨gk, 0, none⟩) xan xan)).setCell ⟨bt, 5, none⟩ (.slice (some ⟨gl, 0, none⟩) xan xan) = W0 at HX hF2 ⊢
          have hbt := HBT.out
          have hgn := HGN.out
          have hs1 := HSZ1.out
          have hb1 := HB2.out.size
          have HR := Lib.hid (HRR.out.fr hF2 (by omega))
          have HK := Lib.hid ((HOK.out.is).fr hF2 (fun ad e => by injection e with e; subst e; show gk ≠ bt; omega))
          have HO := Lib.hid (HOL2.out.fr hF2 (fun ad e => by injection e with e; subst e; show gl ≠ bt; omega))
          have hwr := HFR.out.size
          have hw0 := hF2.size
          have hfrW : Below W.heap.size W W0 := (HB2.out.trans (HFR.out.belowB (fun i hi hh => by omega) (by omega))).trans (hF2.belowB (fun i hi hh => by omega) (by omega))
          obtain ⟨q9, hq9, hq8⟩ : ∃ q9 : Nat → Nat → Prop, (∀ i j, ps[i]? = some j → q9 i = q j) ∧ ∀ i b, q9 i b → ∃ j, ps[i]? = some j ∧ q j b := ⟨fun i b => ∃ j, ps[i]? = some j ∧ q j b, fun i j e => by
            funext b
            exact propext ⟨fun ⟨j', e', h⟩ => by rw [e] at e'; injection e' with e'; rw [e']; exact h, fun h => ⟨j, e, h⟩⟩, fun i b h => h⟩
          have hqp : ∀ i b, q9 i b → p b ∧ b < W.heap.size := fun i b h => by
            obtain ⟨j, _, hj⟩ := hq8 i b h
            exact ⟨HPW.out.2.1 j b hj, HPW.out.1 b (HPW.out.2.1 j b hj)⟩
          have HF := Lib.hid (show SrF W W0 p q9 bt br (some ⟨gk, 0, none⟩) (some ⟨gl, 0, none⟩) by
            refine ⟨hqp, ⟨hbt.1, hbt.2.1, by omega⟩, fun ad e => ?_, fun ad e => ?_, Fr.of_below hfrW _, fun i i' b hii h h' => ?_⟩
            · injection e with e
              subst e
              refine ⟨by show gl < _; omega, by show gl ≠ _; omega, by show gl ≠ _; omega, fun i h => ?_, .inr (by show _ ≤ gl; omega)⟩
              have := (hqp i gl h).2
              omega
            · injection e with e
              subst e
              refine ⟨by show gk < _; omega, by show gk ≠ _; omega, by show gk ≠ _; omega, .inr (by show _ ≤ gk; omega), fun i h => ?_, fun a ea => ?_⟩
              · have := (hqp i gk h).2
                omega
              · injection ea with ea
                subst ea
                exact hgn.1
            · obtain ⟨j, e1, h1⟩ := hq8 i b h
              obtain ⟨j', e2, h2⟩ := hq8 i' b h'
              refine HPW.out.2.2 j j' b (fun e => hii ?_) h1 h2
              subst e
              obtain ⟨l1, e1⟩ := List.getElem?_eq_some_iff.1 e1
              obtain ⟨l2, e2⟩ := List.getElem?_eq_some_iff.1 e2
              exact (List.getElem_inj HPN.out).1 (e1.trans e2.symm))
          have HQ0 := Lib.hid (show (∀ i b, q9 i b → W0.heap[b]? = w0.heap[b]?) ∧ w0.heap.size ≤ W0.heap.size from ⟨fun i b hb => (hfrW.block b (hqp i b hb).2).trans (HWW.out.1 b (hqp i b hb).1), Nat.le_trans HWW.out.2 hfrW.size⟩)
          obtain ⟨t0, _⟩ : ∃ t0 : Tr, True := ⟨.mk 0 0 0 [] [] [], trivial⟩
          have HIH9 := Lib.hid (show ∀ i v t', (ps.map fun p => vs.getD p nv0)[i]? = some v → (ps.map fun p => l.getD p t0)[i]? = some t' → ∀ W', (∀ b, q9 i b → W'.heap[b]? = w0.heap[b]?) → w0.heap.size ≤ W'.heap.size → Calls Tryz.prog 52 #[.agg #[.int .i64 v.k, .int .i64 v.n, .int .u64 (v.u : Int), .string ⟨v.s.toArray⟩, .slice v.A v.an v.ac, .slice v.B v.bn v.bc]] W' (SrtW W' (q9 i) t') from fun i v t' hv' ht' => by
            rw [List.getElem?_map] at hv' ht'
            cases hj : ps[i]? with
            | none => rw [hj] at hv'; simp at hv'
            | some j =>
              rw [hj] at hv' ht'
              simp only [Option.map_some, Option.some.injEq] at hv' ht'
              have hjl : j < xan := HPM.out j (List.mem_of_getElem? hj)
              rw [hq9 i j hj]
              refine HIH.out j v t' ?_ ?_
              · rw [← hv', getD_at nv0 (by rw [HOL.out]; exact hjl), List.getElem?_eq_getElem]
              · rw [← ht', getD_at t0 (by rw [HVL2.out]; exact hjl), List.getElem?_eq_getElem])
          have HEQ := Lib.hid (show sortT (.mk 17 xn xu xs ks l) = .mk 17 xn xu xs (ps.map fun p => ks.getD p []) ((ps.map fun p => l.getD p t0).map sortT) by
            have hs := sort_ps ks (sortL l) (sortT t0) HKL.out (by rw [sortL_map, List.length_map]; exact HVL2.out) HND.out HPERM.out HASC.out
            rw [sortT, if_pos rfl, ← hs, List.map_map, List.map_map, List.map_map]
            congr 1
            apply List.map_congr_left
            intro p _
            show (sortL l).getD p (sortT t0) = sortT (l.getD p t0)
            rw [sortL_map, getD_map'])
          have HCC := Lib.hid (show xan ≤ xan ∧ xan ≤ 1099511627776 ∧ xan ≤ 1099511627776 by omega)
          have HVN := Lib.hid (show (ps.map fun p => vs.getD p nv0).length = xan by rw [List.length_map]; exact HPL.out)
          have HVL := Lib.hid (show (ps.map fun p => vs.getD p nv0).length = (ps.map fun p => l.getD p t0).length by rw [List.length_map, List.length_map])
          have HIH := HIH9
          clear c4 c5 f4 f5 hF1 hF2 hbt hgn hs1 hb1 hwr hw0 hfrW hq9 hq8 hqp HIH9
          generalize (ps.map fun p => vs.getD p nv0) = vs9 at HIH HVN HVL HO
          generalize (ps.map fun p => l.getD p t0) = ts9 at HIH HVL HEQ
          generalize (ps.map fun p => ks.getD p []) = ks9 at HK HEQ
          generalize (some ⟨gl, 0, none⟩ : Option Addr) = A9 at HX HO HF ⊢
          generalize (some ⟨gk, 0, none⟩ : Option Addr) = A8 at HX HK HF ⊢
          have HC := Lib.hid (HX.out.cell 0)
          have c5 : W0.cell? ⟨bt, 5, none⟩ = some (.slice A9 xan xan) := HX.out.cell 5
          go_wp2_with fail
          go_loopw [57] (fun uu wr => ∃ k : Nat, k ≤ xan ∧ uu = .int .i64 (k : Int) ∧ ∃ us, SrR W0 wr q9 A9 xan xan k vs9 ts9 us) (fun uu _ => xan - (intOf uu).toNat)
          case atStart => exact ⟨0, Nat.zero_le _, rfl, vs9, HO.out, fun _ _ => rfl, fun i _ _ hi => by omega, Fr.refl _ _, fun _ _ _ _ => rfl⟩
          case round =>
            obtain ⟨k, hk, rfl, us, hS⟩ := hrel
            have HS := Lib.hid hS
            have HXR := Lib.hid (HX.out.fr hS.fr (HF.out.no (.inl rfl)))
            have HRR := Lib.hid (HR.out.fr hS.fr (HF.out.no (.inr rfl)))
            have HKR := Lib.hid (HK.out.fr hS.fr (fun ad e => by
              have h1 := HF.out.key ad e
              rintro (⟨i, hi⟩ | ⟨a, e2, e3⟩)
              · exact h1.2.2.2.2.1 i hi
              · exact h1.2.2.2.2.2 a e2 e3))
            clear hS c5
            by_cases hlt : k < xan
            · obtain ⟨v, hv⟩ : ∃ v, vs9[k]? = some v := ⟨_, List.getElem?_eq_getElem (by have := HVN.out; omega)⟩
              obtain ⟨t', ht'⟩ : ∃ t', ts9[k]? = some t' := ⟨_, List.getElem?_eq_getElem (by have h1 := HVN.out; have h2 := HVL.out; omega)⟩
              obtain ⟨g, off, e, v0, v1, v2, v3, v4, v5⟩ := isn_at HS.out.own.is ((HS.out.rest k (Nat.le_refl _)).trans hv)
              obtain rfl : off = 0 := congrArg Addr.off (HS.out.own.addr _ e).1
              have e' : A9 = some ⟨g, 0, none⟩ := e
              clear e
              subst e'
              rw [Nat.zero_add] at v0 v1 v2 v3 v4 v5
              have hgo := HF.out.off _ rfl
              have HGO := Lib.hid hgo
              have hk0 : (0 : Int) ≤ (k : Int) := by omega
              have hkn : (k : Int) < (xan : Int) := by omega
              have hn40 : xan ≤ 1099511627776 := HCC.out.2.2
              have c5 : wr.cell? ⟨bt, 5, none⟩ = some (.slice (some ⟨g, 0, none⟩) xan xan) := HXR.out.cell 5
              have hal := (Below.refl wr.heap.size wr).alloc (Nat.le_refl _) (.cells #[.int .i64 v.k, .int .i64 v.n, .int .u64 (v.u : Int), .string ⟨v.s.toArray⟩, .slice v.A v.an v.ac, .slice v.B v.bn v.bc] 26)
              have HX5 := Lib.hid (HXR.out.pure hal)
              have HV5 := Lib.hid (Blk.new wr 26 #[.int .i64 v.k, .int .i64 v.n, .int .u64 (v.u : Int), .string ⟨v.s.toArray⟩, .slice v.A v.an v.ac, .slice v.B v.bn v.bc])
              have HB5 := Lib.hid hal
              have hbx := HF.out.bts
              have hbs := HS.out.fr.size
              have HNX := Lib.hid (show wr.heap.size ≠ g ∧ (∀ b, q9 k b → b ≠ wr.heap.size) ∧ ¬ q9 k bt ∧ bt ≠ g by
                refine ⟨?_, fun b hb e => ?_, fun hb => ?_, ?_⟩
                · have h1 : g < W0.heap.size := hgo.1
                  omega
                · have h1 := (HF.out.qs _ _ hb).2
                  omega
                · have h1 := (HF.out.qs _ _ hb).2
                  omega
                · have h1 : g ≠ bt := hgo.2.1
                  omega)
              have HCD := Lib.hid (HIH.out k v t' hv ht' (wr.alloc (.cells #[.int .i64 v.k, .int .i64 v.n, .int .u64 (v.u : Int), .string ⟨v.s.toArray⟩, .slice v.A v.an v.ac, .slice v.B v.bn v.bc] 26)).drew (fun b hb => by
                have h1 := (HF.out.qs _ _ hb).2
                have h2 : (wr.alloc (.cells #[.int .i64 v.k, .int .i64 v.n, .int .u64 (v.u : Int), .string ⟨v.s.toArray⟩, .slice v.A v.an v.ac, .slice v.B v.bn v.bc] 26)).heap[b]? = wr.heap[b]? := hal.block b (by omega)
                exact h2.trans ((HS.out.same k b (Nat.le_refl _) hb).trans (HQ0.out.1 k b hb))) (by have h1 := HQ0.out.2; have h2 := hal.size; show w0.heap.size ≤ (wr.alloc (.cells #[.int .i64 v.k, .int .i64 v.n, .int .u64 (v.u : Int), .string ⟨v.s.toArray⟩, .slice v.A v.an v.ac, .slice v.B v.bn v.bc] 26)).heap.size; omega))
              have HT' := Lib.hid ht'
              clear hv ht' hal hbx hbs hgo
              go_upto_region 13 with fail
              generalize wr.alloc (.cells #[.int .i64 v.k, .int .i64 v.n, .int .u64 (v.u : Int), .string ⟨v.s.toArray⟩, .slice v.A v.an v.ac, .slice v.B v.bn v.bc] 26) = w5 at HX5 HV5 HB5 HCD ⊢
              generalize wr.heap.size = bx at HV5 HNX ⊢
              clear v0 v1 v2 v3 v4 v5 c5
              have y5 : w5.cell? ⟨bt, 5, none⟩ = some (.slice (some ⟨g, 0, none⟩) xan xan) := HX5.out.cell 5
              have z0 : w5.cell? ⟨bx, 0, none⟩ = some (.int .i64 v.k) := HV5.out.cell 0
              have z1 : w5.cell? ⟨bx, 1, none⟩ = some (.int .i64 v.n) := HV5.out.cell 1
              have z2 : w5.cell? ⟨bx, 2, none⟩ = some (.int .u64 (v.u : Int)) := HV5.out.cell 2
              have z3 : w5.cell? ⟨bx, 3, none⟩ = some (.string ⟨v.s.toArray⟩) := HV5.out.cell 3
              have z4 : w5.cell? ⟨bx, 4, none⟩ = some (.slice v.A v.an v.ac) := HV5.out.cell 4
              have z5 : w5.cell? ⟨bx, 5, none⟩ = some (.slice v.B v.bn v.bc) := HV5.out.cell 5
              go_region_held3 (fun w' => w'.cell? ⟨bt, 5, none⟩ = some (.slice (some ⟨g, 0, none⟩) xan xan) ∧ w'.cell? ⟨bx, 0, none⟩ = some (.int .i64 v.k) ∧ w'.cell? ⟨bx, 1, none⟩ = some (.int .i64 v.n) ∧ w'.cell? ⟨bx, 2, none⟩ = some (.int .u64 (v.u : Int)) ∧ w'.cell? ⟨bx, 3, none⟩ = some (.string ⟨v.s.toArray⟩) ∧ w'.cell? ⟨bx, 4, none⟩ = some (.slice v.A v.an v.ac) ∧ w'.cell? ⟨bx, 5, none⟩ = some (.slice v.B v.bn v.bc)) (first | with_reducible exact ⟨y5, z0, z1, z2, z3, z4, z5⟩ | with_reducible exact ⟨kdrew y5, kdrew z0, kdrew z1, kdrew z2, kdrew z3, kdrew z4, kdrew z5⟩ | with_reducible exact ⟨x5, q0, q1, q2, q3, q4, q5⟩ | exact ⟨cell_set6 x5 HNX.out.2.2.2, cell_set6 q0 HNX.out.1, cell_set6 q1 HNX.out.1, cell_set6 q2 HNX.out.1, cell_set6 q3 HNX.out.1, cell_set6 q4 HNX.out.1, cell_set6 q5 HNX.out.1⟩) (first | (go_at_call 52; (with_reducible refine HCD.out.mono ?_); rintro e W6 ⟨y, rfl, hN6, hF6⟩; have x5 := cell_fr hF6 (kdrew y5) HNX.out.2.2.1; have q0 := cell_fr hF6 (kdrew z0) (fun hh => HNX.out.2.1 _ hh rfl); have q1 := cell_fr hF6 (kdrew z1) (fun hh => HNX.out.2.1 _ hh rfl); have q2 := cell_fr hF6 (kdrew z2) (fun hh => HNX.out.2.1 _ hh rfl); have q3 := cell_fr hF6 (kdrew z3) (fun hh => HNX.out.2.1 _ hh rfl); have q4 := cell_fr hF6 (kdrew z4) (fun hh => HNX.out.2.1 _ hh rfl); have q5 := cell_fr hF6 (kdrew z5) (fun hh => HNX.out.2.1 _ hh rfl); have HN6 := Lib.hid hN6; have HF6 := Lib.hid hF6; clear hN6 hF6; have hO6 := (HS.out.own.pure (HB5.out.drew)).fr HF6.out (fun ad e => by injection e with e; subst e; exact HGO.out.2.2.2.1 k); obtain ⟨hex, hfz, hnew⟩ := own_store6 hO6 hlt y; obtain ⟨a0, ha0⟩ := hex 0 (by omega); obtain ⟨a1, ha1⟩ := hex 1 (by omega); obtain ⟨a2, ha2⟩ := hex 2 (by omega); obtain ⟨a3, ha3⟩ := hex 3 (by omega); obtain ⟨a4, ha4⟩ := hex 4 (by omega); obtain ⟨a5, ha5⟩ := hex 5 (by omega); rw [Nat.add_zero] at ha0; have f0 := hfz (k * 6); have f1 := hfz (k * 6 + 1); have f2 := hfz (k * 6 + 2); have f3 := hfz (k * 6 + 3); have f4 := hfz (k * 6 + 4); have f5 := hfz (k * 6 + 5); clear hex hfz hnew hO6))
              clear ha0 ha1 ha2 ha3 ha4 ha5 f0 f1 f2 f3 f4 f5 x5 q0 q1 q2 q3 q4 q5 y5 z0 z1 z2 z3 z4 z5
              go_wp2_with fail
              go_roundw
              case rel =>
                have hst := HS.out.step hlt HT'.out (fun i b hb => ⟨by have h1 := HF.out.qs i b hb; have h2 := HF.out.bts; omega, fun e => HGO.out.2.2.2.1 i (by rw [e] at hb; exact hb)⟩) HGO.out.1 HF.out.apart HB5.out.drew HN6.out HF6.out
                exact ⟨k + 1, by omega, by go_num, _, hst⟩
              case measure => simp [intOf]; omega
            · obtain rfl : xan = k := by omega
              have c0 : wr.cell? ⟨bt, 0, none⟩ = some (.int .i64 17) := HXR.out.cell 0
              have c1' : wr.cell? ⟨bt, 1, none⟩ = some (.int .i64 xn) := HXR.out.cell 1
              have c2 : wr.cell? ⟨bt, 2, none⟩ = some (.int .u64 (xu : Int)) := HXR.out.cell 2
              have c3 : wr.cell? ⟨bt, 3, none⟩ = some (.string ⟨xs.toArray⟩) := HXR.out.cell 3
              have c4 : wr.cell? ⟨bt, 4, none⟩ = some (.slice A8 xan xan) := HXR.out.cell 4
              have c5 : wr.cell? ⟨bt, 5, none⟩ = some (.slice A9 xan xan) := HXR.out.cell 5
              have r0 : wr.cell? ⟨br, 0, none⟩ = some (.int .i64 0) := HRR.out.cell 0
              have r1 : wr.cell? ⟨br, 1, none⟩ = some (.int .i64 0) := HRR.out.cell 1
              have r2 : wr.cell? ⟨br, 2, none⟩ = some (.int .u64 0) := HRR.out.cell 2
              have r3 : wr.cell? ⟨br, 3, none⟩ = some (.string ⟨#[]⟩) := HRR.out.cell 3
              have r4 : wr.cell? ⟨br, 4, none⟩ = some (.slice none 0 0) := HRR.out.cell 4
              have r5 : wr.cell? ⟨br, 5, none⟩ = some (.slice none 0 0) := HRR.out.cell 5
              have hfz : ∀ j, wr.frozen? ⟨br, j, none⟩ = false := fun j => HRR.out.frozen j
              have f0 := hfz 0
              have f1 := hfz 1
              have f2 := hfz 2
              have f3 := hfz 3
              have f4 := hfz 4
              have f5 := hfz 5
              clear hfz
              go_wp2_with fail
              refine bodyPost_ret (v := .agg #[.int .i64 17, .int .i64 xn, .int .u64 (xu : Int), .string ⟨xs.toArray⟩, .slice A8 xan xan, .slice A9 xan xan]) (by simp [results, Tryz.results52, go_sem, r0, r1, r2, r3, r4, r5]) rfl ?_
              have hd := HF.out.done HS.out HKR.out HCC.out.1 HCC.out.2.1 HCC.out.2.2 (by rw [← HVN.out]; exact HVL.out.symm) 17 xn xu xs (fr_set6 wr br (.int .i64 17) (.int .i64 xn) (.int .u64 (xu : Int)) (.string ⟨xs.toArray⟩) (.slice A8 xan xan) (.slice A9 xan xan))
              rw [← HEQ.out] at hd
              exact ⟨_, rfl, hd.1, hd.2⟩
    · have HEQ := Lib.hid (show sortT (.mk xk xn xu xs ks l) = .mk xk xn xu xs ks (l.map sortT) by rw [sortT, if_neg h17, sortL_map])
      have e17 : (xk == 17) = false := by simpa using h17
      have HCC := Lib.hid (And.intro hac (And.intro hx hy))
      clear ih h1 ha h2 hb hy hab hq hd hl hc hp hv hcost hW hsz hK hO hBl h17 hac hx
      go_enter Tryz.func52, Tryz.ntmps52
      go_upto_region 1 with fail
      generalize (W.alloc (.cells #[.int .i64 xk, .int .i64 xn, .int .u64 (xu : Int), .string ⟨xs.toArray⟩, .slice XA xan xac, .slice XB xbn xbc] 26)).alloc (.cells #[.int .i64 0, .int .i64 0, .int .u64 0, .string ⟨#[]⟩, .slice none 0 0, .slice none 0 0] 26) = W0 at HB0 HX0 HR0 HK0 HO0 ⊢
      generalize hbt : W.heap.size = bt at HX0 HR0 ⊢
      generalize hbr : bt + 1 = br at HR0 ⊢
      have HF := Lib.hid (show SrF W W0 p q bt br XA XB by
        have e1 := HR0.out.lt
        have e2 := HB0.out.size
        refine ⟨fun i b hb => ⟨HPW.out.2.1 i b hb, HPW.out.1 b (HPW.out.2.1 i b hb)⟩, ⟨hbt, hbr, e1⟩, fun ad e => ?_, fun ad e => ?_, Fr.of_below HB0.out _, HPW.out.2.2⟩
        · have h1 := HBB.out ad e
          have h2 := HPW.out.1 _ h1.1
          exact ⟨by omega, by omega, by omega, h1.2, .inl h1.1⟩
        · have h1 := HA.out ad e
          have h2 := HPW.out.1 _ h1.1
          exact ⟨by omega, by omega, by omega, .inl h1.1, h1.2, fun a ea => HAB.out ad a e ea⟩)
      clear hbt hbr
      have c0 : W0.cell? ⟨bt, 0, none⟩ = some (.int .i64 xk) := HX0.out.cell 0
      have HQ0 := Lib.hid (show (∀ i b, q i b → W0.heap[b]? = w0.heap[b]?) ∧ w0.heap.size ≤ W0.heap.size from ⟨fun i b hb => (HB0.out.block b (HPW.out.1 b (HPW.out.2.1 i b hb))).trans (HWW.out.1 b (HPW.out.2.1 i b hb)), Nat.le_trans HWW.out.2 HB0.out.size⟩)
      have HVN := HOL
      have HX := HX0
      have HR := HR0
      have HK := HK0
      have HO := HO0
      clear HX0 HR0 HK0 HO0
      go_upto_region 10 with fail
      clear c0 e17
      have HC := Lib.hid (HX.out.cell 0)
      have c5 : W0.cell? ⟨bt, 5, none⟩ = some (.slice XB xbn xbc) := HX.out.cell 5
      go_wp2_with fail
      go_loopw [57] (fun uu wr => ∃ k : Nat, k ≤ xbn ∧ uu = .int .i64 (k : Int) ∧ ∃ us, SrR W0 wr q XB xbn xbc k vs l us) (fun uu _ => xbn - (intOf uu).toNat)
      case atStart => exact ⟨0, Nat.zero_le _, rfl, vs, HO.out, fun _ _ => rfl, fun i _ _ hi => by omega, Fr.refl _ _, fun _ _ _ _ => rfl⟩
      case round =>
        obtain ⟨k, hk, rfl, us, hS⟩ := hrel
        have HS := Lib.hid hS
        have HXR := Lib.hid (HX.out.fr hS.fr (HF.out.no (.inl rfl)))
        have HRR := Lib.hid (HR.out.fr hS.fr (HF.out.no (.inr rfl)))
        have HKR := Lib.hid (HK.out.fr hS.fr (fun ad e => by
          have h1 := HF.out.key ad e
          rintro (⟨i, hi⟩ | ⟨a, e2, e3⟩)
          · exact h1.2.2.2.2.1 i hi
          · exact h1.2.2.2.2.2 a e2 e3))
        clear hS c5
        by_cases hlt : k < xbn
        · obtain ⟨v, hv⟩ : ∃ v, vs[k]? = some v := ⟨_, List.getElem?_eq_getElem (by have := HVN.out; omega)⟩
          obtain ⟨t', ht'⟩ : ∃ t', l[k]? = some t' := ⟨_, List.getElem?_eq_getElem (by have h1 := HVN.out; have h2 := HVL.out; omega)⟩
          obtain ⟨g, off, e, v0, v1, v2, v3, v4, v5⟩ := isn_at HS.out.own.is ((HS.out.rest k (Nat.le_refl _)).trans hv)
          obtain rfl : off = 0 := congrArg Addr.off (HS.out.own.addr _ e).1
          have e' : XB = some ⟨g, 0, none⟩ := e
          clear e
          subst e'
          rw [Nat.zero_add] at v0 v1 v2 v3 v4 v5
          have hgo := HF.out.off _ rfl
          have HGO := Lib.hid hgo
          have hk0 : (0 : Int) ≤ (k : Int) := by omega
          have hkn : (k : Int) < (xbn : Int) := by omega
          have hn40 : xbn ≤ 1099511627776 := HCC.out.2.2
          have c5 : wr.cell? ⟨bt, 5, none⟩ = some (.slice (some ⟨g, 0, none⟩) xbn xbc) := HXR.out.cell 5
          have hal := (Below.refl wr.heap.size wr).alloc (Nat.le_refl _) (.cells #[.int .i64 v.k, .int .i64 v.n, .int .u64 (v.u : Int), .string ⟨v.s.toArray⟩, .slice v.A v.an v.ac, .slice v.B v.bn v.bc] 26)
          have HX5 := Lib.hid (HXR.out.pure hal)
          have HV5 := Lib.hid (Blk.new wr 26 #[.int .i64 v.k, .int .i64 v.n, .int .u64 (v.u : Int), .string ⟨v.s.toArray⟩, .slice v.A v.an v.ac, .slice v.B v.bn v.bc])
          have HB5 := Lib.hid hal
          have hbx := HF.out.bts
          have hbs := HS.out.fr.size
          have HNX := Lib.hid (show wr.heap.size ≠ g ∧ (∀ b, q k b → b ≠ wr.heap.size) ∧ ¬ q k bt ∧ bt ≠ g by
            refine ⟨?_, fun b hb e => ?_, fun hb => ?_, ?_⟩
            · have h1 : g < W0.heap.size := hgo.1
              omega
            · have h1 := (HF.out.qs _ _ hb).2
              omega
            · have h1 := (HF.out.qs _ _ hb).2
              omega
            · have h1 : g ≠ bt := hgo.2.1
              omega)
          have HCD := Lib.hid (HIH.out k v t' hv ht' (wr.alloc (.cells #[.int .i64 v.k, .int .i64 v.n, .int .u64 (v.u : Int), .string ⟨v.s.toArray⟩, .slice v.A v.an v.ac, .slice v.B v.bn v.bc] 26)).drew (fun b hb => by
            have h1 := (HF.out.qs _ _ hb).2
            have h2 : (wr.alloc (.cells #[.int .i64 v.k, .int .i64 v.n, .int .u64 (v.u : Int), .string ⟨v.s.toArray⟩, .slice v.A v.an v.ac, .slice v.B v.bn v.bc] 26)).heap[b]? = wr.heap[b]? := hal.block b (by omega)
            exact h2.trans ((HS.out.same k b (Nat.le_refl _) hb).trans (HQ0.out.1 k b hb))) (by have h1 := HQ0.out.2; have h2 := hal.size; show w0.heap.size ≤ (wr.alloc (.cells #[.int .i64 v.k, .int .i64 v.n, .int .u64 (v.u : Int), .string ⟨v.s.toArray⟩, .slice v.A v.an v.ac, .slice v.B v.bn v.bc] 26)).heap.size; omega))
          have HT' := Lib.hid ht'
          clear hv ht' hal hbx hbs hgo
          go_upto_region 13 with fail
          generalize wr.alloc (.cells #[.int .i64 v.k, .int .i64 v.n, .int .u64 (v.u : Int), .string ⟨v.s.toArray⟩, .slice v.A v.an v.ac, .slice v.B v.bn v.bc] 26) = w5 at HX5 HV5 HB5 HCD ⊢
          generalize wr.heap.size = bx at HV5 HNX ⊢
          clear v0 v1 v2 v3 v4 v5 c5
          have y5 : w5.cell? ⟨bt, 5, none⟩ = some (.slice (some ⟨g, 0, none⟩) xbn xbc) := HX5.out.cell 5
          have z0 : w5.cell? ⟨bx, 0, none⟩ = some (.int .i64 v.k) := HV5.out.cell 0
          have z1 : w5.cell? ⟨bx, 1, none⟩ = some (.int .i64 v.n) := HV5.out.cell 1
          have z2 : w5.cell? ⟨bx, 2, none⟩ = some (.int .u64 (v.u : Int)) := HV5.out.cell 2
          have z3 : w5.cell? ⟨bx, 3, none⟩ = some (.string ⟨v.s.toArray⟩) := HV5.out.cell 3
          have z4 : w5.cell? ⟨bx, 4, none⟩ = some (.slice v.A v.an v.ac) := HV5.out.cell 4
          have z5 : w5.cell? ⟨bx, 5, none⟩ = some (.slice v.B v.bn v.bc) := HV5.out.cell 5
          go_region_held3 (fun w' => w'.cell? ⟨bt, 5, none⟩ = some (.slice (some ⟨g, 0, none⟩) xbn xbc) ∧ w'.cell? ⟨bx, 0, none⟩ = some (.int .i64 v.k) ∧ w'.cell? ⟨bx, 1, none⟩ = some (.int .i64 v.n) ∧ w'.cell? ⟨bx, 2, none⟩ = some (.int .u64 (v.u : Int)) ∧ w'.cell? ⟨bx, 3, none⟩ = some (.string ⟨v.s.toArray⟩) ∧ w'.cell? ⟨bx, 4, none⟩ = some (.slice v.A v.an v.ac) ∧ w'.cell? ⟨bx, 5, none⟩ = some (.slice v.B v.bn v.bc)) (first | with_reducible exact ⟨y5, z0, z1, z2, z3, z4, z5⟩ | with_reducible exact ⟨kdrew y5, kdrew z0, kdrew z1, kdrew z2, kdrew z3, kdrew z4, kdrew z5⟩ | with_reducible exact ⟨x5, q0, q1, q2, q3, q4, q5⟩ | exact ⟨cell_set6 x5 HNX.out.2.2.2, cell_set6 q0 HNX.out.1, cell_set6 q1 HNX.out.1, cell_set6 q2 HNX.out.1, cell_set6 q3 HNX.out.1, cell_set6 q4 HNX.out.1, cell_set6 q5 HNX.out.1⟩) (first | (go_at_call 52; (with_reducible refine HCD.out.mono ?_); rintro e W6 ⟨y, rfl, hN6, hF6⟩; have x5 := cell_fr hF6 (kdrew y5) HNX.out.2.2.1; have q0 := cell_fr hF6 (kdrew z0) (fun hh => HNX.out.2.1 _ hh rfl); have q1 := cell_fr hF6 (kdrew z1) (fun hh => HNX.out.2.1 _ hh rfl); have q2 := cell_fr hF6 (kdrew z2) (fun hh => HNX.out.2.1 _ hh rfl); have q3 := cell_fr hF6 (kdrew z3) (fun hh => HNX.out.2.1 _ hh rfl); have q4 := cell_fr hF6 (kdrew z4) (fun hh => HNX.out.2.1 _ hh rfl); have q5 := cell_fr hF6 (kdrew z5) (fun hh => HNX.out.2.1 _ hh rfl); have HN6 := Lib.hid hN6; have HF6 := Lib.hid hF6; clear hN6 hF6; have hO6 := (HS.out.own.pure (HB5.out.drew)).fr HF6.out (fun ad e => by injection e with e; subst e; exact HGO.out.2.2.2.1 k); obtain ⟨hex, hfz, hnew⟩ := own_store6 hO6 hlt y; obtain ⟨a0, ha0⟩ := hex 0 (by omega); obtain ⟨a1, ha1⟩ := hex 1 (by omega); obtain ⟨a2, ha2⟩ := hex 2 (by omega); obtain ⟨a3, ha3⟩ := hex 3 (by omega); obtain ⟨a4, ha4⟩ := hex 4 (by omega); obtain ⟨a5, ha5⟩ := hex 5 (by omega); rw [Nat.add_zero] at ha0; have f0 := hfz (k * 6); have f1 := hfz (k * 6 + 1); have f2 := hfz (k * 6 + 2); have f3 := hfz (k * 6 + 3); have f4 := hfz (k * 6 + 4); have f5 := hfz (k * 6 + 5); clear hex hfz hnew hO6))
          clear ha0 ha1 ha2 ha3 ha4 ha5 f0 f1 f2 f3 f4 f5 x5 q0 q1 q2 q3 q4 q5 y5 z0 z1 z2 z3 z4 z5
          go_wp2_with fail
          go_roundw
          case rel =>
            have hst := HS.out.step hlt HT'.out (fun i b hb => ⟨by have h1 := HF.out.qs i b hb; have h2 := HF.out.bts; omega, fun e => HGO.out.2.2.2.1 i (by rw [e] at hb; exact hb)⟩) HGO.out.1 HF.out.apart HB5.out.drew HN6.out HF6.out
            exact ⟨k + 1, by omega, by go_num, _, hst⟩
          case measure => simp [intOf]; omega
        · obtain rfl : xbn = k := by omega
          have c0 : wr.cell? ⟨bt, 0, none⟩ = some (.int .i64 xk) := HXR.out.cell 0
          have c1' : wr.cell? ⟨bt, 1, none⟩ = some (.int .i64 xn) := HXR.out.cell 1
          have c2 : wr.cell? ⟨bt, 2, none⟩ = some (.int .u64 (xu : Int)) := HXR.out.cell 2
          have c3 : wr.cell? ⟨bt, 3, none⟩ = some (.string ⟨xs.toArray⟩) := HXR.out.cell 3
          have c4 : wr.cell? ⟨bt, 4, none⟩ = some (.slice XA xan xac) := HXR.out.cell 4
          have c5 : wr.cell? ⟨bt, 5, none⟩ = some (.slice XB xbn xbc) := HXR.out.cell 5
          have r0 : wr.cell? ⟨br, 0, none⟩ = some (.int .i64 0) := HRR.out.cell 0
          have r1 : wr.cell? ⟨br, 1, none⟩ = some (.int .i64 0) := HRR.out.cell 1
          have r2 : wr.cell? ⟨br, 2, none⟩ = some (.int .u64 0) := HRR.out.cell 2
          have r3 : wr.cell? ⟨br, 3, none⟩ = some (.string ⟨#[]⟩) := HRR.out.cell 3
          have r4 : wr.cell? ⟨br, 4, none⟩ = some (.slice none 0 0) := HRR.out.cell 4
          have r5 : wr.cell? ⟨br, 5, none⟩ = some (.slice none 0 0) := HRR.out.cell 5
          have hfz : ∀ j, wr.frozen? ⟨br, j, none⟩ = false := fun j => HRR.out.frozen j
          have f0 := hfz 0
          have f1 := hfz 1
          have f2 := hfz 2
          have f3 := hfz 3
          have f4 := hfz 4
          have f5 := hfz 5
          clear hfz
          go_wp2_with fail
          refine bodyPost_ret (v := .agg #[.int .i64 xk, .int .i64 xn, .int .u64 (xu : Int), .string ⟨xs.toArray⟩, .slice XA xan xac, .slice XB xbn xbc]) (by simp [results, Tryz.results52, go_sem, r0, r1, r2, r3, r4, r5]) rfl ?_
          have hd := HF.out.done HS.out HKR.out HCC.out.1 HCC.out.2.1 HCC.out.2.2 (by rw [← HOL.out]; exact HVL.out.symm) xk xn xu xs (fr_set6 wr br (.int .i64 xk) (.int .i64 xn) (.int .u64 (xu : Int)) (.string ⟨xs.toArray⟩) (.slice XA xan xac) (.slice XB xbn xbc))
          rw [← HEQ.out] at hd
          exact ⟨_, rfl, hd.1, hd.2⟩
end Go.Proofs.YtfoifdoaleaekaaGreat
