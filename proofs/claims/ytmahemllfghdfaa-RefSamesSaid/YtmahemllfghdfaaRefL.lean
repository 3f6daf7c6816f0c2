/-
  Package ref: the property RefSames.
-/
import Derived.Test.YtmahemllfghdfaaRefRow
import Derived.Test.YtmahemllfghdfaaCut
import Derived.Deep.DeepCutAuto
import Derived.Deep.RegionWith
namespace Go.Proofs.Ytmahemllfghdfaa
open Go.RowKit Go.Acc
/-- A reference's four numbers, as cells. -/
structure Rf where
  p : Int
  q : Int
  t : Int
  v : Int
def rfc (r : Rf) : List Value := [.int .i64 r.p, .int .i64 r.q, .int .i64 r.t, .int .i64 r.v]
theorem rf_at {w : World} {g n k : Nat} {l : List Rf} (h : Is rfc w (some ⟨g, 0, none⟩) n l) (hk : k < n) : ∃ hk : k < l.length, w.cell? ⟨g, k * 4, none⟩ = some (.int .i64 l[k].p) ∧ w.cell? ⟨g, k * 4 + 1, none⟩ = some (.int .i64 l[k].q) ∧ w.cell? ⟨g, k * 4 + 2, none⟩ = some (.int .i64 l[k].t) ∧ w.cell? ⟨g, k * 4 + 3, none⟩ = some (.int .i64 l[k].v) := by
  obtain ⟨b, off, e, hk', hc⟩ := h.at_ (fun _ => rfl) (sz := 4) (by omega) hk
  injection e with e
  injection e with e1 e2
  subst e1 e2
  have h0 := hc 0 (by omega)
  have h1 := hc 1 (by omega)
  have h2 := hc 2 (by omega)
  have h3 := hc 3 (by omega)
  rw [Nat.zero_add] at h0 h1 h2 h3
  exact ⟨hk', h0, h1, h2, h3⟩
def sameRf (x y : Rf) : Bool := sameR x.p x.q x.t x.v y.p y.q y.t y.v
theorem same_symm (x y : Rf) : sameRf x y = sameRf y x := by
  unfold sameRf sameR
  rw [Bool.eq_iff_iff]
  simp only [decide_eq_true_eq]
  constructor
  · rintro ⟨h1, h2, h3, h4⟩
    rw [← h3]
    exact ⟨h1.symm, h2.symm, rfl, h4.imp id (Or.imp id Eq.symm)⟩
  · rintro ⟨h1, h2, h3, h4⟩
    rw [← h3]
    exact ⟨h1.symm, h2.symm, rfl, h4.imp id (Or.imp id Eq.symm)⟩
theorem same_trans {x y z : Rf} (h : sameRf x y = true) (h' : sameRf y z = true) : sameRf x z = true := by
  unfold sameRf sameR at *
  simp only [decide_eq_true_eq] at *
  obtain ⟨a1, a2, a3, a4⟩ := h
  obtain ⟨b1, b2, b3, b4⟩ := h'
  refine ⟨a1.trans b1, a2.trans b2, a3.trans b3, ?_⟩
  rw [← a3] at b4
  rcases a4 with a | a | a
  · exact .inl a
  · exact .inr (.inl a)
  · rcases b4 with b | b | b
    · exact .inl b
    · exact .inr (.inl b)
    · exact .inr (.inr (a.trans b))
theorem same_tgt {l : List UInt8} {x y : Rf} (h : sameRf x y = true) (h1 : tgtE l x.p x.q x.t x.v = 0) (h2 : tgtE l y.p y.q y.t y.v = 0) : tgt l x.p x.q x.t x.v = tgt l y.p y.q y.t y.v := by
  unfold sameRf sameR at h
  simp only [decide_eq_true_eq] at h
  unfold tgt
  rw [h1, h2, h.1, h.2.1]
theorem rdrew {w : World} {p : Addr} {u : Value} (h : w.cell? p = some u) : w.drew.cell? p = some u := h
theorem same_kind {x y : Rf} (h : sameRf x y = true) : kindT x.t = kindT y.t := by
  unfold sameRf sameR at h
  simp only [decide_eq_true_eq] at h
  rw [h.2.2.1]
theorem same_spec2 (x y : Rf) (s : Bool) (w : World) (h : sameRf x y = s) : Calls Try.prog 6 #[.agg #[.int .i64 x.p, .int .i64 x.q, .int .i64 x.t, .int .i64 x.v], .agg #[.int .i64 y.p, .int .i64 y.q, .int .i64 y.t, .int .i64 y.v]] w fun e w' => e = .returned (.bool s) ∧ Below w.heap.size w w' := by
  subst h
  exact same_spec x.p x.q x.t x.v y.p y.q y.t y.v w
theorem eql_ref (a b c d a' b' c' d' : Int) : ∀ W : World, (binOp .eql 23 (.agg #[.int .i64 a, .int .i64 b, .int .i64 c, .int .i64 d]) (.agg #[.int .i64 a', .int .i64 b', .int .i64 c', .int .i64 d'])).run Try.prog W = .ok (.bool (decide (a = a' ∧ b = b' ∧ c = c' ∧ d = d'))) W := by
  intro W
  by_cases h1 : a = a' <;> by_cases h2 : b = b' <;> by_cases h3 : c = c' <;> by_cases h4 : d = d' <;> go_simp
theorem rf_ext {x y : Rf} (h1 : x.p = y.p) (h2 : x.q = y.q) (h3 : x.t = y.t) (h4 : x.v = y.v) : x = y := by
  cases x; cases y; simp_all
set_option maxRecDepth 100000 in
set_option maxHeartbeats 16000000 in
theorem refsames_spec (A : Option Addr) (n c : Nat) (r0 r1 r2 : Rf) (l : List UInt8) (w : World) (h : IsB w A n l) (hc : n ≤ c) :
    Calls Try.prog 3 #[.agg #[.int .i64 r0.p, .int .i64 r0.q, .int .i64 r0.t, .int .i64 r0.v, .int .i64 r1.p, .int .i64 r1.q, .int .i64 r1.t, .int .i64 r1.v, .int .i64 r2.p, .int .i64 r2.q, .int .i64 r2.t, .int .i64 r2.v], .slice A n c] w fun e w' => e = .returned (.bool true) ∧ Below w.heap.size w w' := by
  obtain ⟨M, hMn, hMB, hmin, hcut⟩ := cut_facts A n c 300 300 rfl hc
  obtain ⟨cs, hcs⟩ : ∃ cs : Array Value, #[.int .i64 r0.p, .int .i64 r0.q, .int .i64 r0.t, .int .i64 r0.v, .int .i64 r1.p, .int .i64 r1.q, .int .i64 r1.t, .int .i64 r1.v, .int .i64 r2.p, .int .i64 r2.q, .int .i64 r2.t, .int .i64 r2.v] = cs := ⟨_, rfl⟩
  have HX := Lib.hid (show Is rfc (w.alloc (.cells cs 24)) (some ⟨w.heap.size, 0, none⟩) 3 [r0, r1, r2] from by
    refine ⟨rfl, fun j u hu => ⟨_, _, rfl, ?_⟩⟩
    rw [Nat.zero_add, (Blk.new w 24 cs).cell j, ← hcs]
    simpa [rfc] using hu)
  have HM := Lib.hid ((h.take bc_len hMn).alloc (.cells cs 24))
  have HB := Lib.hid ((Below.refl w.heap.size w).alloc (Nat.le_refl _) (.cells cs 24))
  rw [hcs]
  clear h hcs
  go_enter Try.func3, Try.ntmps3
  go_wp2_with fail
  go_at_call 5
  refine (copyb_spec A M c (l.take M) _ HM.out (by omega)).mono ?_
  rintro e w1 ⟨A1, n1, c1, rfl, hO1, hb1⟩
  obtain rfl : M = n1 := by rw [← hO1.1, HM.out.1]
  have hlen := HM.out.1
  generalize l.take M = l at hO1 hlen
  have HB := Lib.hid (pure_below HB.out hb1)
  have HI := Lib.hid hO1.is
  have HX := Lib.hid (HX.out.pure hb1)
  have hc1 := hO1.cap.1
  clear hO1 hb1 hmin hcut HM
  subst hlen
  have HB0 := Lib.hid HB.out.size
  go_wp2
  go_loopw [6, 7, 8, 9, 10, 11, 12, 13] (fun i _ _ _ _ _ _ _ wr => ∃ k : Nat, k ≤ 3 ∧ i = .int .i64 k ∧ Below w1.heap.size w1 wr) (fun i _ _ _ _ _ _ _ _ => 3 - (intOf i).toNat)
  case atStart => exact ⟨0, by omega, rfl, Below.refl _ _⟩
  case round =>
    obtain ⟨i, hi3, rfl, hB⟩ := hrel
    have HBr := Lib.hid hB
    clear hB
    by_cases hi : i < 3
    · have hiI : (i : Int) < 3 := by omega
      have hi0 : (0 : Int) ≤ i := by omega
      obtain ⟨wo, rfl⟩ : ∃ wo : World, wo = wr := ⟨_, rfl⟩
      go_wp2_with fail
      go_loopw [7, 8, 9, 10, 11, 12, 13] (fun i _ _ _ _ _ _ wr => ∃ k : Nat, k ≤ 3 ∧ i = .int .i64 k ∧ Below w1.heap.size w1 wr) (fun i _ _ _ _ _ _ _ => 3 - (intOf i).toNat)
      case atStart => exact ⟨0, by omega, rfl, HBr.out⟩
      case round =>
        obtain ⟨k, hk3, rfl, hB⟩ := hrel
        have HBr := Lib.hid hB
        clear hB
        by_cases hk : k < 3
        · have hkI : (k : Int) < 3 := by omega
          have hk0 : (0 : Int) ≤ k := by omega
          obtain ⟨wq, rfl⟩ : ∃ wo : World, wo = wr := ⟨_, rfl⟩
          have HXr := Lib.hid (HX.out.pure HBr.out)
          obtain ⟨hil, i0, i1, i2, i3⟩ := rf_at HXr.out hi
          obtain ⟨hkl, k0, k1, k2, k3⟩ := rf_at HXr.out hk
          generalize hx : ([r0, r1, r2] : List Rf)[i] = x at i0 i1 i2 i3
          generalize hy : ([r0, r1, r2] : List Rf)[k] = y at k0 k1 k2 k3
          have HXE := Lib.hid hx
          have HYE := Lib.hid hy
          clear hx hy
          obtain ⟨same, hs⟩ : ∃ b, sameRf x y = b := ⟨_, rfl⟩
          have HS := Lib.hid hs
          have HSY := Lib.hid ((same_symm y x).trans hs)
          obtain ⟨eb, heb⟩ : ∃ b : Bool, decide (x.p = y.p ∧ x.q = y.q ∧ x.t = y.t ∧ x.v = y.v) = b := ⟨_, rfl⟩
          have heql := eql_ref x.p x.q x.t x.v y.p y.q y.t y.v
          rw [heb] at heql
          have hes : eb = true → same = true := by
            intro h
            rw [h] at heb
            obtain ⟨h1, h2, h3, h4⟩ := of_decide_eq_true heb
            rw [← hs, rf_ext h1 h2 h3 h4]
            unfold sameRf sameR
            simp
          have HES := Lib.hid hes
          clear hs heb hes
          go_wp2_with fail
          first
            | (go_region_held3 (fun w' => (w'.cell? ⟨w.heap.size, i * 4, none⟩ = some (.int .i64 x.p) ∧ w'.cell? ⟨w.heap.size, i * 4 + 1, none⟩ = some (.int .i64 x.q) ∧ w'.cell? ⟨w.heap.size, i * 4 + 2, none⟩ = some (.int .i64 x.t) ∧ w'.cell? ⟨w.heap.size, i * 4 + 3, none⟩ = some (.int .i64 x.v)) ∧ w'.cell? ⟨w.heap.size, k * 4, none⟩ = some (.int .i64 y.p) ∧ w'.cell? ⟨w.heap.size, k * 4 + 1, none⟩ = some (.int .i64 y.q) ∧ w'.cell? ⟨w.heap.size, k * 4 + 2, none⟩ = some (.int .i64 y.t) ∧ w'.cell? ⟨w.heap.size, k * 4 + 3, none⟩ = some (.int .i64 y.v)) (first | assumption | exact ⟨⟨i0, i1, i2, i3⟩, k0, k1, k2, k3⟩ | exact ⟨⟨cell_pure HB5.out i0, cell_pure HB5.out i1, cell_pure HB5.out i2, cell_pure HB5.out i3⟩, cell_pure HB5.out k0, cell_pure HB5.out k1, cell_pure HB5.out k2, cell_pure HB5.out k3⟩) (first | (go_at_call 6; refine (same_spec2 x y same _ HS.out).mono ?_; rintro e w5 ⟨rfl, hb5⟩; have HB5 := Lib.hid hb5; clear hb5)))
            | fail
          have HBr := Lib.hid (pure_below HBr.out.drew HB5.out)
          have i0 := cell_pure HB5.out (p := ⟨w.heap.size, i * 4, none⟩) (u := .int .i64 x.p) i0
          have i1 := cell_pure HB5.out (p := ⟨w.heap.size, i * 4 + 1, none⟩) (u := .int .i64 x.q) i1
          have i2 := cell_pure HB5.out (p := ⟨w.heap.size, i * 4 + 2, none⟩) (u := .int .i64 x.t) i2
          have i3 := cell_pure HB5.out (p := ⟨w.heap.size, i * 4 + 3, none⟩) (u := .int .i64 x.v) i3
          have k0 := cell_pure HB5.out (p := ⟨w.heap.size, k * 4, none⟩) (u := .int .i64 y.p) k0
          have k1 := cell_pure HB5.out (p := ⟨w.heap.size, k * 4 + 1, none⟩) (u := .int .i64 y.q) k1
          have k2 := cell_pure HB5.out (p := ⟨w.heap.size, k * 4 + 2, none⟩) (u := .int .i64 y.t) k2
          have k3 := cell_pure HB5.out (p := ⟨w.heap.size, k * 4 + 3, none⟩) (u := .int .i64 y.v) k3
          obtain ⟨wz, rfl⟩ : ∃ wo : World, wo = w5 := ⟨_, rfl⟩
          clear HB5
          go_upto_region 9 with fail
          go_cut [56] (fun s wx => ∃ wy, wy = wx ∧ s = .bool false ∧ Below wz.heap.size wz wx)
          case first =>
            cases eb with
            | false =>
              first
                | (go_region_with (first | (go_at_call 6; refine (same_spec2 y x same _ HSY.out).mono ?_; rintro e w5 ⟨rfl, hb5⟩; have HB5 := Lib.hid hb5; replace i0 := cell_pure hb5 (rdrew i0); replace i1 := cell_pure hb5 (rdrew i1); replace i2 := cell_pure hb5 (rdrew i2); replace i3 := cell_pure hb5 (rdrew i3); replace k0 := cell_pure hb5 (rdrew k0); replace k1 := cell_pure hb5 (rdrew k1); replace k2 := cell_pure hb5 (rdrew k2); replace k3 := cell_pure hb5 (rdrew k3); clear hb5)))
                | fail
              all_goals
                go_wp2_with fail
                go_meet
                exact ⟨_, rfl, rfl, pure_below (Below.refl _ _).drew HB5.out⟩
            | true =>
              obtain rfl : true = same := (HES.out rfl).symm
              first
                | (go_region_held3 (fun w' => (w'.cell? ⟨w.heap.size, i * 4, none⟩ = some (.int .i64 x.p) ∧ w'.cell? ⟨w.heap.size, i * 4 + 1, none⟩ = some (.int .i64 x.q) ∧ w'.cell? ⟨w.heap.size, i * 4 + 2, none⟩ = some (.int .i64 x.t) ∧ w'.cell? ⟨w.heap.size, i * 4 + 3, none⟩ = some (.int .i64 x.v)) ∧ w'.cell? ⟨w.heap.size, k * 4, none⟩ = some (.int .i64 y.p) ∧ w'.cell? ⟨w.heap.size, k * 4 + 1, none⟩ = some (.int .i64 y.q) ∧ w'.cell? ⟨w.heap.size, k * 4 + 2, none⟩ = some (.int .i64 y.t) ∧ w'.cell? ⟨w.heap.size, k * 4 + 3, none⟩ = some (.int .i64 y.v)) (first | with_reducible exact ⟨⟨i0, i1, i2, i3⟩, k0, k1, k2, k3⟩ | with_reducible exact ⟨⟨rdrew i0, rdrew i1, rdrew i2, rdrew i3⟩, rdrew k0, rdrew k1, rdrew k2, rdrew k3⟩) (first | (go_at_call 6; refine (same_spec2 y x true _ HSY.out).mono ?_; rintro e w5 ⟨rfl, hb5⟩; have HB5 := Lib.hid hb5; replace i0 := cell_pure hb5 (rdrew i0); replace i1 := cell_pure hb5 (rdrew i1); replace i2 := cell_pure hb5 (rdrew i2); replace i3 := cell_pure hb5 (rdrew i3); replace k0 := cell_pure hb5 (rdrew k0); replace k1 := cell_pure hb5 (rdrew k1); replace k2 := cell_pure hb5 (rdrew k2); replace k3 := cell_pure hb5 (rdrew k3); clear hb5)))
                | fail
              go_wp2_with fail
              go_meet
              exact ⟨_, rfl, rfl, pure_below (Below.refl _ _).drew HB5.out⟩
          case rest =>
            obtain ⟨wa, rfl, rfl, hb⟩ := hcut
            replace HBr := Lib.hid (pure_below HBr.out hb)
            clear hb i0 i1 i2 i3 k0 k1 k2 k3 heql
            go_wp2_with fail
            go_loopw [9] (fun i wr => ∃ m : Nat, m ≤ 3 ∧ i = .int .i64 m ∧ Below w1.heap.size w1 wr) (fun i _ => 3 - (intOf i).toNat)
            case atStart => exact ⟨0, by omega, rfl, HBr.out⟩
            case round =>
              obtain ⟨m, hm3, rfl, hB⟩ := hrel
              clear HBr
              have HBr := Lib.hid hB
              clear hB HXr
              by_cases hm : m < 3
              · have hmI : (m : Int) < 3 := by omega
                have hm0 : (0 : Int) ≤ m := by omega
                have HXr := Lib.hid (HX.out.pure HBr.out)
                obtain ⟨hil, i0, i1, i2, i3⟩ := rf_at HXr.out hi
                obtain ⟨hkl, k0, k1, k2, k3⟩ := rf_at HXr.out hk
                rw [HXE.out] at i0 i1 i2 i3
                rw [HYE.out] at k0 k1 k2 k3
                obtain ⟨hml, j0, j1, j2, j3⟩ := rf_at HXr.out hm
                generalize hz : ([r0, r1, r2] : List Rf)[m] = z at j0 j1 j2 j3
                clear hz
                obtain ⟨wb, rfl⟩ : ∃ wo : World, wo = wr := ⟨_, rfl⟩
                obtain ⟨s2, hs2⟩ : ∃ b, sameRf y z = b := ⟨_, rfl⟩
                have HS2 := Lib.hid hs2
                go_wp2_with fail
                go_cut [80] (fun s wx => ∃ wy, wy = wx ∧ s = .bool false ∧ Below wb.heap.size wb wx)
                case first =>
                  cases same with
                  | false =>
                    go_quiet (fail)
                    go_wp2_with fail
                    go_meet
                    exact ⟨_, rfl, rfl, below_drewN (Below.refl _ _) _⟩
                  | true =>
                    cases s2 with
                    | true =>
                      have HS3 := Lib.hid (same_trans HS.out hs2)
                      clear hs2
                      first
                        | (go_region_held3 (fun w' => (w'.cell? ⟨w.heap.size, k * 4, none⟩ = some (.int .i64 y.p) ∧ w'.cell? ⟨w.heap.size, k * 4 + 1, none⟩ = some (.int .i64 y.q) ∧ w'.cell? ⟨w.heap.size, k * 4 + 2, none⟩ = some (.int .i64 y.t) ∧ w'.cell? ⟨w.heap.size, k * 4 + 3, none⟩ = some (.int .i64 y.v)) ∧ (w'.cell? ⟨w.heap.size, m * 4, none⟩ = some (.int .i64 z.p) ∧ w'.cell? ⟨w.heap.size, m * 4 + 1, none⟩ = some (.int .i64 z.q) ∧ w'.cell? ⟨w.heap.size, m * 4 + 2, none⟩ = some (.int .i64 z.t) ∧ w'.cell? ⟨w.heap.size, m * 4 + 3, none⟩ = some (.int .i64 z.v)) ∧ (w'.cell? ⟨w.heap.size, i * 4, none⟩ = some (.int .i64 x.p) ∧ w'.cell? ⟨w.heap.size, i * 4 + 1, none⟩ = some (.int .i64 x.q) ∧ w'.cell? ⟨w.heap.size, i * 4 + 2, none⟩ = some (.int .i64 x.t) ∧ w'.cell? ⟨w.heap.size, i * 4 + 3, none⟩ = some (.int .i64 x.v))) (first | with_reducible exact ⟨⟨k0, k1, k2, k3⟩, ⟨j0, j1, j2, j3⟩, i0, i1, i2, i3⟩ | with_reducible exact ⟨⟨rdrew k0, rdrew k1, rdrew k2, rdrew k3⟩, ⟨rdrew j0, rdrew j1, rdrew j2, rdrew j3⟩, rdrew i0, rdrew i1, rdrew i2, rdrew i3⟩) (first
                          | (go_at_call 6; (with_reducible refine (same_spec2 y z true _ HS2.out).mono ?_); rintro e w5 ⟨rfl, hb5⟩; have HB5 := Lib.hid hb5; replace i0 := cell_pure hb5 (rdrew i0); replace i1 := cell_pure hb5 (rdrew i1); replace i2 := cell_pure hb5 (rdrew i2); replace i3 := cell_pure hb5 (rdrew i3); replace k0 := cell_pure hb5 (rdrew k0); replace k1 := cell_pure hb5 (rdrew k1); replace k2 := cell_pure hb5 (rdrew k2); replace k3 := cell_pure hb5 (rdrew k3); replace j0 := cell_pure hb5 (rdrew j0); replace j1 := cell_pure hb5 (rdrew j1); replace j2 := cell_pure hb5 (rdrew j2); replace j3 := cell_pure hb5 (rdrew j3); clear hb5)
                          | (go_at_call 6; (with_reducible refine (same_spec2 x z true _ HS3.out).mono ?_); rintro e w6 ⟨rfl, hb5⟩; have HB6 := Lib.hid hb5; replace i0 := cell_pure hb5 i0; replace i1 := cell_pure hb5 i1; replace i2 := cell_pure hb5 i2; replace i3 := cell_pure hb5 i3; replace k0 := cell_pure hb5 k0; replace k1 := cell_pure hb5 k1; replace k2 := cell_pure hb5 k2; replace k3 := cell_pure hb5 k3; replace j0 := cell_pure hb5 j0; replace j1 := cell_pure hb5 j1; replace j2 := cell_pure hb5 j2; replace j3 := cell_pure hb5 j3; clear hb5)))
                        | fail
                      go_wp2_with fail
                      go_meet
                      exact ⟨_, rfl, rfl, pure_trans (pure_below (Below.refl _ _).drew HB5.out) HB6.out⟩
                    | false =>
                      clear hs2
                      first
                        | (go_region_with (first | (go_at_call 6; refine (same_spec2 y z false _ HS2.out).mono ?_; rintro e w5 ⟨rfl, hb5⟩; have HB5 := Lib.hid hb5; replace i0 := cell_pure hb5 (rdrew i0); replace i1 := cell_pure hb5 (rdrew i1); replace i2 := cell_pure hb5 (rdrew i2); replace i3 := cell_pure hb5 (rdrew i3); replace k0 := cell_pure hb5 (rdrew k0); replace k1 := cell_pure hb5 (rdrew k1); replace k2 := cell_pure hb5 (rdrew k2); replace k3 := cell_pure hb5 (rdrew k3); replace j0 := cell_pure hb5 (rdrew j0); replace j1 := cell_pure hb5 (rdrew j1); replace j2 := cell_pure hb5 (rdrew j2); replace j3 := cell_pure hb5 (rdrew j3); clear hb5)))
                        | fail
                      all_goals
                        go_wp2_with fail
                        go_meet
                        exact ⟨_, rfl, rfl, pure_below (Below.refl _ _).drew HB5.out⟩
                case rest =>
                  obtain ⟨wd, rfl, rfl, hb⟩ := hcut
                  replace HBr := Lib.hid (pure_below HBr.out hb)
                  clear hb i0 i1 i2 i3 k0 k1 k2 k3 j0 j1 j2 j3 hs2
                  go_wp2
                  go_roundw
                  case rel => exact ⟨m + 1, by omega, by go_num, HBr.out⟩
                  case measure => simp [intOf]; omega
              · have hmI : (3 : Int) ≤ m := by omega
                have HXr := Lib.hid (HX.out.pure HBr.out)
                obtain ⟨hil, i0, i1, i2, i3⟩ := rf_at HXr.out hi
                obtain ⟨hkl, k0, k1, k2, k3⟩ := rf_at HXr.out hk
                rw [HXE.out] at i0 i1 i2 i3
                rw [HYE.out] at k0 k1 k2 k3
                obtain ⟨ee, hee⟩ : ∃ e, tgtE l x.p x.q x.t x.v = e := ⟨_, rfl⟩
                obtain ⟨ff, hff⟩ : ∃ e, tgtE l y.p y.q y.t y.v = e := ⟨_, rfl⟩
                obtain ⟨ta, hta⟩ : ∃ e, tgt l x.p x.q x.t x.v = e := ⟨_, rfl⟩
                obtain ⟨tb, htb⟩ : ∃ e, tgt l y.p y.q y.t y.v = e := ⟨_, rfl⟩
                have HEE := Lib.hid hee
                have HFF := Lib.hid hff
                have HTA := Lib.hid hta
                have HTB := Lib.hid htb
                clear hee hff hta htb
                have HIr := Lib.hid (HI.out.pure HBr.out)
                obtain ⟨wb, rfl⟩ : ∃ wo : World, wo = wr := ⟨_, rfl⟩
                go_wp2_with fail
                go_at_call 7
                refine (target_spec A1 l.length c1 x.p x.q x.t x.v l _ HIr.out hc1 (by omega)).mono ?_
                rw [HEE.out, HTA.out]
                rintro e wc ⟨rfl, hb5⟩
                replace i0 := cell_pure hb5 i0
                replace i1 := cell_pure hb5 i1
                replace i2 := cell_pure hb5 i2
                replace i3 := cell_pure hb5 i3
                replace k0 := cell_pure hb5 k0
                replace k1 := cell_pure hb5 k1
                replace k2 := cell_pure hb5 k2
                replace k3 := cell_pure hb5 k3
                replace HIr := Lib.hid (HIr.out.pure hb5)
                have HB7 := Lib.hid hb5
                clear hb5
                go_wp2_with fail
                go_at_call 7
                refine (target_spec A1 l.length c1 y.p y.q y.t y.v l _ HIr.out hc1 (by omega)).mono ?_
                rw [HFF.out, HTB.out]
                rintro e wd ⟨rfl, hb5⟩
                replace i0 := cell_pure hb5 i0
                replace i1 := cell_pure hb5 i1
                replace i2 := cell_pure hb5 i2
                replace i3 := cell_pure hb5 i3
                replace k0 := cell_pure hb5 k0
                replace k1 := cell_pure hb5 k1
                replace k2 := cell_pure hb5 k2
                replace k3 := cell_pure hb5 k3
                replace HB7 := Lib.hid (pure_trans HB7.out hb5)
                clear hb5 HIr
                go_wp2_with fail
                go_cut [121] (fun s wx => ∃ wy, wy = wx ∧ s = .bool false ∧ Below wd.heap.size wd wx)
                case first =>
                  cases same with
                  | false =>
                    go_quiet (fail)
                    go_wp2_with fail
                    go_meet
                    exact ⟨_, rfl, rfl, below_drewN (Below.refl _ _) _⟩
                  | true =>
                    have HKT := Lib.hid (same_kind HS.out)
                    by_cases he : ee = 0
                    · subst he
                      by_cases hf : ff = 0
                      · subst hf
                        have ht : ta = tb := by rw [← HTA.out, ← HTB.out]; exact same_tgt HS.out HEE.out HFF.out
                        have htt : (ta != tb) = false := by rw [ht]; simp
                        clear ht
                        first
                          | (go_region_held3 (fun w' => (w'.cell? ⟨w.heap.size, i * 4, none⟩ = some (.int .i64 x.p) ∧ w'.cell? ⟨w.heap.size, i * 4 + 1, none⟩ = some (.int .i64 x.q) ∧ w'.cell? ⟨w.heap.size, i * 4 + 2, none⟩ = some (.int .i64 x.t) ∧ w'.cell? ⟨w.heap.size, i * 4 + 3, none⟩ = some (.int .i64 x.v)) ∧ (w'.cell? ⟨w.heap.size, k * 4, none⟩ = some (.int .i64 y.p) ∧ w'.cell? ⟨w.heap.size, k * 4 + 1, none⟩ = some (.int .i64 y.q) ∧ w'.cell? ⟨w.heap.size, k * 4 + 2, none⟩ = some (.int .i64 y.t) ∧ w'.cell? ⟨w.heap.size, k * 4 + 3, none⟩ = some (.int .i64 y.v))) (first | with_reducible exact ⟨⟨i0, i1, i2, i3⟩, k0, k1, k2, k3⟩ | with_reducible exact ⟨⟨rdrew i0, rdrew i1, rdrew i2, rdrew i3⟩, rdrew k0, rdrew k1, rdrew k2, rdrew k3⟩) (first
                            | (go_at_call 8; (with_reducible refine (kind_spec x.p x.q x.t x.v _).mono ?_); rw [HKT.out]; rintro e w5 ⟨rfl, hb5⟩; have HB5 := Lib.hid hb5; (first | (replace i0 := cell_pure hb5 (rdrew i0); replace i1 := cell_pure hb5 (rdrew i1); replace i2 := cell_pure hb5 (rdrew i2); replace i3 := cell_pure hb5 (rdrew i3); replace k0 := cell_pure hb5 (rdrew k0); replace k1 := cell_pure hb5 (rdrew k1); replace k2 := cell_pure hb5 (rdrew k2); replace k3 := cell_pure hb5 (rdrew k3)) | (replace i0 := cell_pure hb5 i0; replace i1 := cell_pure hb5 i1; replace i2 := cell_pure hb5 i2; replace i3 := cell_pure hb5 i3; replace k0 := cell_pure hb5 k0; replace k1 := cell_pure hb5 k1; replace k2 := cell_pure hb5 k2; replace k3 := cell_pure hb5 k3)); clear hb5)
                            | (go_at_call 8; (with_reducible refine (kind_spec y.p y.q y.t y.v _).mono ?_); rintro e w6 ⟨rfl, hb5⟩; have HB6 := Lib.hid hb5; replace i0 := cell_pure hb5 i0; replace i1 := cell_pure hb5 i1; replace i2 := cell_pure hb5 i2; replace i3 := cell_pure hb5 i3; replace k0 := cell_pure hb5 k0; replace k1 := cell_pure hb5 k1; replace k2 := cell_pure hb5 k2; replace k3 := cell_pure hb5 k3; clear hb5)))
                          | fail
                        go_wp2_with fail
                        go_meet
                        exact ⟨_, rfl, rfl, pure_trans (pure_below (Below.refl _ _).drew HB5.out) HB6.out⟩
                      · have hfn : (ff == 0) = false := beq_eq_false_iff_ne.mpr hf
                        clear hf
                        refine wp_region_held_drew (S := (fun w' => (w'.cell? ⟨w.heap.size, i * 4, none⟩ = some (.int .i64 x.p) ∧ w'.cell? ⟨w.heap.size, i * 4 + 1, none⟩ = some (.int .i64 x.q) ∧ w'.cell? ⟨w.heap.size, i * 4 + 2, none⟩ = some (.int .i64 x.t) ∧ w'.cell? ⟨w.heap.size, i * 4 + 3, none⟩ = some (.int .i64 x.v)) ∧ w'.cell? ⟨w.heap.size, k * 4, none⟩ = some (.int .i64 y.p) ∧ w'.cell? ⟨w.heap.size, k * 4 + 1, none⟩ = some (.int .i64 y.q) ∧ w'.cell? ⟨w.heap.size, k * 4 + 2, none⟩ = some (.int .i64 y.t) ∧ w'.cell? ⟨w.heap.size, k * 4 + 3, none⟩ = some (.int .i64 y.v))) (by kernel_rfl) ?_ (fun hHeld => ?_)
                        · exact ⟨⟨rdrew i0, rdrew i1, rdrew i2, rdrew i3⟩, rdrew k0, rdrew k1, rdrew k2, rdrew k3⟩
                        replace i0 := rdrew i0
                        replace i1 := rdrew i1
                        replace i2 := rdrew i2
                        replace i3 := rdrew i3
                        replace k0 := rdrew k0
                        replace k1 := rdrew k1
                        replace k2 := rdrew k2
                        replace k3 := rdrew k3
                        refine wpAnyH_take (i := 0) (oi := ?_) (v := ?_) ?_ ?_ ?_ ?_ ?_ ?_ ?_ ?_
                        rotate_left 2
                        · (simp only [List.getElem?_toArray, List.getElem?_cons_zero]; rfl)
                        · kernel_rfl
                        · kernel_rfl
                        · kernel_rfl
                        · exact fun _ _ _ h => h
                        · refine Or.inl ⟨by rfl, ?_⟩
                          intro w' hSw
                          (try dsimp only at hSw)
                          go_simp
                          (try with_reducible rfl)
                        · assumption
                        try simp only [Act.put, List.setIfInBounds_toArray, List.set_cons_zero, List.set_cons_succ]
                        refine wpAnyH_take (i := 1) (oi := ?_) (v := ?_) ?_ ?_ ?_ ?_ ?_ ?_ ?_ ?_
                        rotate_left 2
                        · (simp only [List.getElem?_toArray, List.getElem?_cons_succ, List.getElem?_cons_zero]; rfl)
                        · kernel_rfl
                        · kernel_rfl
                        · kernel_rfl
                        · exact fun _ _ _ h => h
                        · refine Or.inl ⟨by rfl, ?_⟩
                          intro w' hSw
                          (try dsimp only at hSw)
                          go_simp
                          (try with_reducible rfl)
                        · assumption
                        try simp only [Act.put, List.setIfInBounds_toArray, List.set_cons_zero, List.set_cons_succ]
                        refine wpAnyH_take (i := 2) (oi := ?_) (v := ?_) ?_ ?_ ?_ ?_ ?_ ?_ ?_ ?_
                        rotate_left 2
                        · (simp only [List.getElem?_toArray, List.getElem?_cons_succ, List.getElem?_cons_zero]; rfl)
                        · kernel_rfl
                        · kernel_rfl
                        · kernel_rfl
                        · exact fun _ _ _ h => h
                        · refine Or.inl ⟨by rfl, ?_⟩
                          intro w' hSw
                          (try dsimp only at hSw)
                          go_simp
                          (try with_reducible rfl)
                        · assumption
                        try simp only [Act.put, List.setIfInBounds_toArray, List.set_cons_zero, List.set_cons_succ]
                        refine wpAnyH_take (i := 3) (oi := ?_) (v := ?_) ?_ ?_ ?_ ?_ ?_ ?_ ?_ ?_
                        rotate_left 2
                        · (simp only [List.getElem?_toArray, List.getElem?_cons_succ, List.getElem?_cons_zero]; rfl)
                        · kernel_rfl
                        · kernel_rfl
                        · kernel_rfl
                        · exact fun _ _ _ h => h
                        · refine Or.inl ⟨by rfl, ?_⟩
                          intro w' hSw
                          (try dsimp only at hSw)
                          go_simp
                          (try with_reducible rfl)
                        · assumption
                        try simp only [Act.put, List.setIfInBounds_toArray, List.set_cons_zero, List.set_cons_succ]
                        refine wpAnyH_take (i := 4) (oi := ?_) (v := ?_) ?_ ?_ ?_ ?_ ?_ ?_ ?_ ?_
                        rotate_left 2
                        · (simp only [List.getElem?_toArray, List.getElem?_cons_succ, List.getElem?_cons_zero]; rfl)
                        · kernel_rfl
                        · kernel_rfl
                        · kernel_rfl
                        · exact fun _ _ _ h => h
                        · refine Or.inl ⟨by rfl, ?_⟩
                          intro w' hSw
                          (try dsimp only at hSw)
                          go_simp
                          (try with_reducible rfl)
                        · assumption
                        try simp only [Act.put, List.setIfInBounds_toArray, List.set_cons_zero, List.set_cons_succ]
                        refine wpAnyH_take (i := 6) (oi := ?_) (v := ?_) ?_ ?_ ?_ ?_ ?_ ?_ ?_ ?_
                        rotate_left 2
                        · (simp only [List.getElem?_toArray, List.getElem?_cons_succ, List.getElem?_cons_zero]; rfl)
                        · kernel_rfl
                        · kernel_rfl
                        · kernel_rfl
                        · exact fun _ _ _ h => h
                        · refine Or.inl ⟨by rfl, ?_⟩
                          intro w' hSw
                          (try dsimp only at hSw)
                          go_simp
                          (try with_reducible rfl)
                        · assumption
                        try simp only [Act.put, List.setIfInBounds_toArray, List.set_cons_zero, List.set_cons_succ]
                        refine wpAnyH_take (i := 7) (oi := ?_) (v := ?_) ?_ ?_ ?_ ?_ ?_ ?_ ?_ ?_
                        rotate_left 2
                        · (simp only [List.getElem?_toArray, List.getElem?_cons_succ, List.getElem?_cons_zero]; rfl)
                        · kernel_rfl
                        · kernel_rfl
                        · kernel_rfl
                        · exact fun _ _ _ h => h
                        · refine Or.inl ⟨by rfl, ?_⟩
                          intro w' hSw
                          (try dsimp only at hSw)
                          go_simp
                          (try with_reducible rfl)
                        · assumption
                        try simp only [Act.put, List.setIfInBounds_toArray, List.set_cons_zero, List.set_cons_succ]
                        refine wpAnyH_take (i := 8) (oi := ?_) (v := ?_) ?_ ?_ ?_ ?_ ?_ ?_ ?_ ?_
                        rotate_left 2
                        · (simp only [List.getElem?_toArray, List.getElem?_cons_succ, List.getElem?_cons_zero]; rfl)
                        · kernel_rfl
                        · kernel_rfl
                        · kernel_rfl
                        · exact fun _ _ _ h => h
                        · refine Or.inl ⟨by rfl, ?_⟩
                          intro w' hSw
                          (try dsimp only at hSw)
                          go_simp
                          (try with_reducible rfl)
                        · assumption
                        try simp only [Act.put, List.setIfInBounds_toArray, List.set_cons_zero, List.set_cons_succ]
                        refine wpAnyH_ready (rs := [5]) (by kernel_rfl) (by simp) ?_
                        refine AllReadyH.cons (by simp only [List.getElem?_toArray, List.getElem?_cons_succ, List.getElem?_cons_zero]; rfl) (fun K hK => ?_) AllReadyH.nil
                        go_simp
                        go_at_call 8
                        with_reducible refine (kind_spec x.p x.q x.t x.v _).mono ?_
                        rintro e w5 ⟨rfl, hb5⟩
                        have HB5 := Lib.hid hb5
                        clear hb5
                        go_wp2_with fail
                        refine hK.out _ _ ?_ (fun hHeld => ?_)
                        · (try dsimp only)
                          replace i0 := cell_pure HB5.out i0
                          replace i1 := cell_pure HB5.out i1
                          replace i2 := cell_pure HB5.out i2
                          replace i3 := cell_pure HB5.out i3
                          replace k0 := cell_pure HB5.out k0
                          replace k1 := cell_pure HB5.out k1
                          replace k2 := cell_pure HB5.out k2
                          replace k3 := cell_pure HB5.out k3
                          exact ⟨⟨i0, i1, i2, i3⟩, k0, k1, k2, k3⟩
                        replace i0 := cell_pure HB5.out i0
                        replace i1 := cell_pure HB5.out i1
                        replace i2 := cell_pure HB5.out i2
                        replace i3 := cell_pure HB5.out i3
                        replace k0 := cell_pure HB5.out k0
                        replace k1 := cell_pure HB5.out k1
                        replace k2 := cell_pure HB5.out k2
                        replace k3 := cell_pure HB5.out k3
                        clear hK K
                        try simp only [Act.put, List.setIfInBounds_toArray, List.set_cons_zero, List.set_cons_succ]
                        refine wpAnyH_ready (rs := [9]) (by kernel_rfl) (by simp) ?_
                        refine AllReadyH.cons (by simp only [List.getElem?_toArray, List.getElem?_cons_succ, List.getElem?_cons_zero]; rfl) (fun K hK => ?_) AllReadyH.nil
                        go_simp
                        go_at_call 8
                        with_reducible refine (kind_spec y.p y.q y.t y.v _).mono ?_
                        rintro e w6 ⟨rfl, hb5⟩
                        have HB6 := Lib.hid hb5
                        clear hb5
                        go_wp2_with fail
                        refine hK.out _ _ ?_ (fun hHeld => ?_)
                        · (try dsimp only)
                          replace i0 := cell_pure HB6.out i0
                          replace i1 := cell_pure HB6.out i1
                          replace i2 := cell_pure HB6.out i2
                          replace i3 := cell_pure HB6.out i3
                          replace k0 := cell_pure HB6.out k0
                          replace k1 := cell_pure HB6.out k1
                          replace k2 := cell_pure HB6.out k2
                          replace k3 := cell_pure HB6.out k3
                          exact ⟨⟨i0, i1, i2, i3⟩, k0, k1, k2, k3⟩
                        replace i0 := cell_pure HB6.out i0
                        replace i1 := cell_pure HB6.out i1
                        replace i2 := cell_pure HB6.out i2
                        replace i3 := cell_pure HB6.out i3
                        replace k0 := cell_pure HB6.out k0
                        replace k1 := cell_pure HB6.out k1
                        replace k2 := cell_pure HB6.out k2
                        replace k3 := cell_pure HB6.out k3
                        clear hK K
                        try simp only [Act.put, List.setIfInBounds_toArray, List.set_cons_zero, List.set_cons_succ]
                        rw [HKT.out]
                        refine wpAnyH_take (i := 10) (oi := ?_) (v := ?_) ?_ ?_ ?_ ?_ ?_ ?_ ?_ ?_
                        rotate_left 2
                        · (simp only [List.getElem?_toArray, List.getElem?_cons_succ, List.getElem?_cons_zero]; rfl)
                        · kernel_rfl
                        · kernel_rfl
                        · kernel_rfl
                        · exact fun _ _ _ h => h
                        · refine Or.inl ⟨by rfl, ?_⟩
                          intro w' hSw
                          (try dsimp only at hSw)
                          go_simp
                          (try with_reducible rfl)
                        · assumption
                        try simp only [Act.put, List.setIfInBounds_toArray, List.set_cons_zero, List.set_cons_succ]
                        refine wpAnyH_take (i := 11) (oi := ?_) (v := ?_) ?_ ?_ ?_ ?_ ?_ ?_ ?_ ?_
                        rotate_left 2
                        · (simp only [List.getElem?_toArray, List.getElem?_cons_succ, List.getElem?_cons_zero]; rfl)
                        · kernel_rfl
                        · kernel_rfl
                        · kernel_rfl
                        · exact fun _ _ _ h => h
                        · refine Or.inl ⟨by rfl, ?_⟩
                          intro w' hSw
                          (try dsimp only at hSw)
                          go_simp
                          (try with_reducible rfl)
                        · assumption
                        try simp only [Act.put, List.setIfInBounds_toArray, List.set_cons_zero, List.set_cons_succ]
                        refine wpAnyH_take (i := 12) (oi := ?_) (v := ?_) ?_ ?_ ?_ ?_ ?_ ?_ ?_ ?_
                        rotate_left 2
                        · (simp only [List.getElem?_toArray, List.getElem?_cons_succ, List.getElem?_cons_zero]; rfl)
                        · kernel_rfl
                        · kernel_rfl
                        · kernel_rfl
                        · exact fun _ _ _ h => h
                        · refine Or.inl ⟨by rfl, ?_⟩
                          intro w' hSw
                          (try dsimp only at hSw)
                          go_simp
                          (try with_reducible rfl)
                        · assumption
                        try simp only [Act.put, List.setIfInBounds_toArray, List.set_cons_zero, List.set_cons_succ]
                        refine wpAnyH_take (i := 13) (oi := ?_) (v := ?_) ?_ ?_ ?_ ?_ ?_ ?_ ?_ ?_
                        rotate_left 2
                        · (simp only [List.getElem?_toArray, List.getElem?_cons_succ, List.getElem?_cons_zero]; rfl)
                        · kernel_rfl
                        · kernel_rfl
                        · kernel_rfl
                        · exact fun _ _ _ h => h
                        · refine Or.inl ⟨by rfl, ?_⟩
                          intro w' hSw
                          (try dsimp only at hSw)
                          go_simp
                          (try with_reducible rfl)
                        · assumption
                        try simp only [Act.put, List.setIfInBounds_toArray, List.set_cons_zero, List.set_cons_succ]
                        refine wpAnyH_take (i := 14) (oi := ?_) (v := ?_) ?_ ?_ ?_ ?_ ?_ ?_ ?_ ?_
                        rotate_left 2
                        · (simp only [List.getElem?_toArray, List.getElem?_cons_succ, List.getElem?_cons_zero]; rfl)
                        · kernel_rfl
                        · kernel_rfl
                        · kernel_rfl
                        · exact fun _ _ _ h => h
                        · refine Or.inl ⟨by rfl, ?_⟩
                          intro w' hSw
                          (try dsimp only at hSw)
                          go_simp
                          (try with_reducible rfl)
                        · assumption
                        try simp only [Act.put, List.setIfInBounds_toArray, List.set_cons_zero, List.set_cons_succ]
                        refine wpAnyH_take (i := 15) (oi := ?_) (v := ?_) ?_ ?_ ?_ ?_ ?_ ?_ ?_ ?_
                        rotate_left 2
                        · (simp only [List.getElem?_toArray, List.getElem?_cons_succ, List.getElem?_cons_zero]; rfl)
                        · kernel_rfl
                        · kernel_rfl
                        · kernel_rfl
                        · exact fun _ _ _ h => h
                        · refine Or.inl ⟨by rfl, ?_⟩
                          intro w' hSw
                          (try dsimp only at hSw)
                          go_simp
                          (try with_reducible rfl)
                        · assumption
                        try simp only [Act.put, List.setIfInBounds_toArray, List.set_cons_zero, List.set_cons_succ]
                        refine wpAnyH_take (i := 16) (oi := ?_) (v := ?_) ?_ ?_ ?_ ?_ ?_ ?_ ?_ ?_
                        rotate_left 2
                        · (simp only [List.getElem?_toArray, List.getElem?_cons_succ, List.getElem?_cons_zero]; rfl)
                        · kernel_rfl
                        · kernel_rfl
                        · kernel_rfl
                        · exact fun _ _ _ h => h
                        · refine Or.inl ⟨by rfl, ?_⟩
                          intro w' hSw
                          (try dsimp only at hSw)
                          go_simp
                          (try with_reducible rfl)
                        · assumption
                        try simp only [Act.put, List.setIfInBounds_toArray, List.set_cons_zero, List.set_cons_succ]
                        refine wpAnyH_take (i := 17) (oi := ?_) (v := ?_) ?_ ?_ ?_ ?_ ?_ ?_ ?_ ?_
                        rotate_left 2
                        · (simp only [List.getElem?_toArray, List.getElem?_cons_succ, List.getElem?_cons_zero]; rfl)
                        · kernel_rfl
                        · kernel_rfl
                        · kernel_rfl
                        · exact fun _ _ _ h => h
                        · refine Or.inl ⟨by rfl, ?_⟩
                          intro w' hSw
                          (try dsimp only at hSw)
                          go_simp
                          (try with_reducible rfl)
                        · assumption
                        try simp only [Act.put, List.setIfInBounds_toArray, List.set_cons_zero, List.set_cons_succ]
                        refine wpAnyH_take (i := 18) (oi := ?_) (v := ?_) ?_ ?_ ?_ ?_ ?_ ?_ ?_ ?_
                        rotate_left 2
                        · (simp only [List.getElem?_toArray, List.getElem?_cons_succ, List.getElem?_cons_zero]; rfl)
                        · kernel_rfl
                        · kernel_rfl
                        · kernel_rfl
                        · exact fun _ _ _ h => h
                        · refine Or.inl ⟨by rfl, ?_⟩
                          intro w' hSw
                          (try dsimp only at hSw)
                          go_simp
                          (try with_reducible rfl)
                        · assumption
                        try simp only [Act.put, List.setIfInBounds_toArray, List.set_cons_zero, List.set_cons_succ]
                        refine wpAnyH_take (i := 19) (oi := ?_) (v := undef) ?_ ?_ ?_ ?_ ?_ ?_ ?_ ?_
                        rotate_left 1
                        · (simp only [List.getElem?_toArray, List.getElem?_cons_succ, List.getElem?_cons_zero]; rfl)
                        · kernel_rfl
                        · kernel_rfl
                        · kernel_rfl
                        · exact fun _ _ _ h => h
                        · exact Or.inr ⟨by rfl, rfl⟩
                        · assumption
                        try simp only [Act.put, List.setIfInBounds_toArray, List.set_cons_zero, List.set_cons_succ]
                        refine wpAnyH_take (i := 20) (oi := ?_) (v := undef) ?_ ?_ ?_ ?_ ?_ ?_ ?_ ?_
                        rotate_left 1
                        · (simp only [List.getElem?_toArray, List.getElem?_cons_succ, List.getElem?_cons_zero]; rfl)
                        · kernel_rfl
                        · kernel_rfl
                        · kernel_rfl
                        · exact fun _ _ _ h => h
                        · exact Or.inr ⟨by rfl, rfl⟩
                        · assumption
                        try simp only [Act.put, List.setIfInBounds_toArray, List.set_cons_zero, List.set_cons_succ]
                        refine wpAnyH_take (i := 21) (oi := ?_) (v := undef) ?_ ?_ ?_ ?_ ?_ ?_ ?_ ?_
                        rotate_left 1
                        · (simp only [List.getElem?_toArray, List.getElem?_cons_succ, List.getElem?_cons_zero]; rfl)
                        · kernel_rfl
                        · kernel_rfl
                        · kernel_rfl
                        · exact fun _ _ _ h => h
                        · exact Or.inr ⟨by rfl, rfl⟩
                        · assumption
                        try simp only [Act.put, List.setIfInBounds_toArray, List.set_cons_zero, List.set_cons_succ]
                        refine wpAnyH_take (i := 22) (oi := ?_) (v := ?_) ?_ ?_ ?_ ?_ ?_ ?_ ?_ ?_
                        rotate_left 2
                        · (simp only [List.getElem?_toArray, List.getElem?_cons_succ, List.getElem?_cons_zero]; rfl)
                        · kernel_rfl
                        · kernel_rfl
                        · kernel_rfl
                        · exact fun _ _ _ h => h
                        · refine Or.inl ⟨by rfl, ?_⟩
                          intro w' hSw
                          (try dsimp only at hSw)
                          go_simp
                          (try with_reducible rfl)
                        · assumption
                        try simp only [Act.put, List.setIfInBounds_toArray, List.set_cons_zero, List.set_cons_succ]
                        refine wpAnyH_take (i := 23) (oi := ?_) (v := ?_) ?_ ?_ ?_ ?_ ?_ ?_ ?_ ?_
                        rotate_left 2
                        · (simp only [List.getElem?_toArray, List.getElem?_cons_succ, List.getElem?_cons_zero]; rfl)
                        · kernel_rfl
                        · kernel_rfl
                        · kernel_rfl
                        · exact fun _ _ _ h => h
                        · refine Or.inl ⟨by rfl, ?_⟩
                          intro w' hSw
                          (try dsimp only at hSw)
                          go_simp
                          (try with_reducible rfl)
                        · assumption
                        try simp only [Act.put, List.setIfInBounds_toArray, List.set_cons_zero, List.set_cons_succ]
                        refine wpAnyH_take (i := 24) (oi := ?_) (v := ?_) ?_ ?_ ?_ ?_ ?_ ?_ ?_ ?_
                        rotate_left 2
                        · (simp only [List.getElem?_toArray, List.getElem?_cons_succ, List.getElem?_cons_zero]; rfl)
                        · kernel_rfl
                        · kernel_rfl
                        · kernel_rfl
                        · exact fun _ _ _ h => h
                        · refine Or.inl ⟨by rfl, ?_⟩
                          intro w' hSw
                          (try dsimp only at hSw)
                          go_simp
                          (try with_reducible rfl)
                        · assumption
                        try simp only [Act.put, List.setIfInBounds_toArray, List.set_cons_zero, List.set_cons_succ]
                        refine wpAnyH_done (by kernel_rfl) ?_ _
                        go_wp2_with fail
                        go_meet
                        exact ⟨_, rfl, rfl, pure_trans (pure_below (Below.refl _ _).drew HB5.out) HB6.out⟩
                    · have hen : (ee == 0) = false := beq_eq_false_iff_ne.mpr he
                      clear he
                      refine wp_region_held_drew (S := (fun w' => (w'.cell? ⟨w.heap.size, i * 4, none⟩ = some (.int .i64 x.p) ∧ w'.cell? ⟨w.heap.size, i * 4 + 1, none⟩ = some (.int .i64 x.q) ∧ w'.cell? ⟨w.heap.size, i * 4 + 2, none⟩ = some (.int .i64 x.t) ∧ w'.cell? ⟨w.heap.size, i * 4 + 3, none⟩ = some (.int .i64 x.v)) ∧ w'.cell? ⟨w.heap.size, k * 4, none⟩ = some (.int .i64 y.p) ∧ w'.cell? ⟨w.heap.size, k * 4 + 1, none⟩ = some (.int .i64 y.q) ∧ w'.cell? ⟨w.heap.size, k * 4 + 2, none⟩ = some (.int .i64 y.t) ∧ w'.cell? ⟨w.heap.size, k * 4 + 3, none⟩ = some (.int .i64 y.v))) (by kernel_rfl) ?_ (fun hHeld => ?_)
                      · exact ⟨⟨rdrew i0, rdrew i1, rdrew i2, rdrew i3⟩, rdrew k0, rdrew k1, rdrew k2, rdrew k3⟩
                      replace i0 := rdrew i0
                      replace i1 := rdrew i1
                      replace i2 := rdrew i2
                      replace i3 := rdrew i3
                      replace k0 := rdrew k0
                      replace k1 := rdrew k1
                      replace k2 := rdrew k2
                      replace k3 := rdrew k3
                      refine wpAnyH_take (i := 0) (oi := ?_) (v := ?_) ?_ ?_ ?_ ?_ ?_ ?_ ?_ ?_
                      rotate_left 2
                      · (simp only [List.getElem?_toArray, List.getElem?_cons_zero]; rfl)
                      · kernel_rfl
                      · kernel_rfl
                      · kernel_rfl
                      · exact fun _ _ _ h => h
                      · refine Or.inl ⟨by rfl, ?_⟩
                        intro w' hSw
                        (try dsimp only at hSw)
                        go_simp
                        (try with_reducible rfl)
                      · assumption
                      try simp only [Act.put, List.setIfInBounds_toArray, List.set_cons_zero, List.set_cons_succ]
                      refine wpAnyH_take (i := 1) (oi := ?_) (v := ?_) ?_ ?_ ?_ ?_ ?_ ?_ ?_ ?_
                      rotate_left 2
                      · (simp only [List.getElem?_toArray, List.getElem?_cons_succ, List.getElem?_cons_zero]; rfl)
                      · kernel_rfl
                      · kernel_rfl
                      · kernel_rfl
                      · exact fun _ _ _ h => h
                      · refine Or.inl ⟨by rfl, ?_⟩
                        intro w' hSw
                        (try dsimp only at hSw)
                        go_simp
                        (try with_reducible rfl)
                      · assumption
                      try simp only [Act.put, List.setIfInBounds_toArray, List.set_cons_zero, List.set_cons_succ]
                      refine wpAnyH_take (i := 2) (oi := ?_) (v := ?_) ?_ ?_ ?_ ?_ ?_ ?_ ?_ ?_
                      rotate_left 2
                      · (simp only [List.getElem?_toArray, List.getElem?_cons_succ, List.getElem?_cons_zero]; rfl)
                      · kernel_rfl
                      · kernel_rfl
                      · kernel_rfl
                      · exact fun _ _ _ h => h
                      · refine Or.inl ⟨by rfl, ?_⟩
                        intro w' hSw
                        (try dsimp only at hSw)
                        go_simp
                        (try with_reducible rfl)
                      · assumption
                      try simp only [Act.put, List.setIfInBounds_toArray, List.set_cons_zero, List.set_cons_succ]
                      refine wpAnyH_take (i := 3) (oi := ?_) (v := ?_) ?_ ?_ ?_ ?_ ?_ ?_ ?_ ?_
                      rotate_left 2
                      · (simp only [List.getElem?_toArray, List.getElem?_cons_succ, List.getElem?_cons_zero]; rfl)
                      · kernel_rfl
                      · kernel_rfl
                      · kernel_rfl
                      · exact fun _ _ _ h => h
                      · refine Or.inl ⟨by rfl, ?_⟩
                        intro w' hSw
                        (try dsimp only at hSw)
                        go_simp
                        (try with_reducible rfl)
                      · assumption
                      try simp only [Act.put, List.setIfInBounds_toArray, List.set_cons_zero, List.set_cons_succ]
                      refine wpAnyH_take (i := 4) (oi := ?_) (v := ?_) ?_ ?_ ?_ ?_ ?_ ?_ ?_ ?_
                      rotate_left 2
                      · (simp only [List.getElem?_toArray, List.getElem?_cons_succ, List.getElem?_cons_zero]; rfl)
                      · kernel_rfl
                      · kernel_rfl
                      · kernel_rfl
                      · exact fun _ _ _ h => h
                      · refine Or.inl ⟨by rfl, ?_⟩
                        intro w' hSw
                        (try dsimp only at hSw)
                        go_simp
                        (try with_reducible rfl)
                      · assumption
                      try simp only [Act.put, List.setIfInBounds_toArray, List.set_cons_zero, List.set_cons_succ]
                      refine wpAnyH_take (i := 6) (oi := ?_) (v := ?_) ?_ ?_ ?_ ?_ ?_ ?_ ?_ ?_
                      rotate_left 2
                      · (simp only [List.getElem?_toArray, List.getElem?_cons_succ, List.getElem?_cons_zero]; rfl)
                      · kernel_rfl
                      · kernel_rfl
                      · kernel_rfl
                      · exact fun _ _ _ h => h
                      · refine Or.inl ⟨by rfl, ?_⟩
                        intro w' hSw
                        (try dsimp only at hSw)
                        go_simp
                        (try with_reducible rfl)
                      · assumption
                      try simp only [Act.put, List.setIfInBounds_toArray, List.set_cons_zero, List.set_cons_succ]
                      refine wpAnyH_take (i := 7) (oi := ?_) (v := ?_) ?_ ?_ ?_ ?_ ?_ ?_ ?_ ?_
                      rotate_left 2
                      · (simp only [List.getElem?_toArray, List.getElem?_cons_succ, List.getElem?_cons_zero]; rfl)
                      · kernel_rfl
                      · kernel_rfl
                      · kernel_rfl
                      · exact fun _ _ _ h => h
                      · refine Or.inl ⟨by rfl, ?_⟩
                        intro w' hSw
                        (try dsimp only at hSw)
                        go_simp
                        (try with_reducible rfl)
                      · assumption
                      try simp only [Act.put, List.setIfInBounds_toArray, List.set_cons_zero, List.set_cons_succ]
                      refine wpAnyH_take (i := 8) (oi := ?_) (v := ?_) ?_ ?_ ?_ ?_ ?_ ?_ ?_ ?_
                      rotate_left 2
                      · (simp only [List.getElem?_toArray, List.getElem?_cons_succ, List.getElem?_cons_zero]; rfl)
                      · kernel_rfl
                      · kernel_rfl
                      · kernel_rfl
                      · exact fun _ _ _ h => h
                      · refine Or.inl ⟨by rfl, ?_⟩
                        intro w' hSw
                        (try dsimp only at hSw)
                        go_simp
                        (try with_reducible rfl)
                      · assumption
                      try simp only [Act.put, List.setIfInBounds_toArray, List.set_cons_zero, List.set_cons_succ]
                      refine wpAnyH_ready (rs := [5]) (by kernel_rfl) (by simp) ?_
                      refine AllReadyH.cons (by simp only [List.getElem?_toArray, List.getElem?_cons_succ, List.getElem?_cons_zero]; rfl) (fun K hK => ?_) AllReadyH.nil
                      go_simp
                      go_at_call 8
                      with_reducible refine (kind_spec x.p x.q x.t x.v _).mono ?_
                      rintro e w5 ⟨rfl, hb5⟩
                      have HB5 := Lib.hid hb5
                      clear hb5
                      go_wp2_with fail
                      refine hK.out _ _ ?_ (fun hHeld => ?_)
                      · (try dsimp only)
                        replace i0 := cell_pure HB5.out i0
                        replace i1 := cell_pure HB5.out i1
                        replace i2 := cell_pure HB5.out i2
                        replace i3 := cell_pure HB5.out i3
                        replace k0 := cell_pure HB5.out k0
                        replace k1 := cell_pure HB5.out k1
                        replace k2 := cell_pure HB5.out k2
                        replace k3 := cell_pure HB5.out k3
                        exact ⟨⟨i0, i1, i2, i3⟩, k0, k1, k2, k3⟩
                      replace i0 := cell_pure HB5.out i0
                      replace i1 := cell_pure HB5.out i1
                      replace i2 := cell_pure HB5.out i2
                      replace i3 := cell_pure HB5.out i3
                      replace k0 := cell_pure HB5.out k0
                      replace k1 := cell_pure HB5.out k1
                      replace k2 := cell_pure HB5.out k2
                      replace k3 := cell_pure HB5.out k3
                      clear hK K
                      try simp only [Act.put, List.setIfInBounds_toArray, List.set_cons_zero, List.set_cons_succ]
                      refine wpAnyH_ready (rs := [9]) (by kernel_rfl) (by simp) ?_
                      refine AllReadyH.cons (by simp only [List.getElem?_toArray, List.getElem?_cons_succ, List.getElem?_cons_zero]; rfl) (fun K hK => ?_) AllReadyH.nil
                      go_simp
                      go_at_call 8
                      with_reducible refine (kind_spec y.p y.q y.t y.v _).mono ?_
                      rintro e w6 ⟨rfl, hb5⟩
                      have HB6 := Lib.hid hb5
                      clear hb5
                      go_wp2_with fail
                      refine hK.out _ _ ?_ (fun hHeld => ?_)
                      · (try dsimp only)
                        replace i0 := cell_pure HB6.out i0
                        replace i1 := cell_pure HB6.out i1
                        replace i2 := cell_pure HB6.out i2
                        replace i3 := cell_pure HB6.out i3
                        replace k0 := cell_pure HB6.out k0
                        replace k1 := cell_pure HB6.out k1
                        replace k2 := cell_pure HB6.out k2
                        replace k3 := cell_pure HB6.out k3
                        exact ⟨⟨i0, i1, i2, i3⟩, k0, k1, k2, k3⟩
                      replace i0 := cell_pure HB6.out i0
                      replace i1 := cell_pure HB6.out i1
                      replace i2 := cell_pure HB6.out i2
                      replace i3 := cell_pure HB6.out i3
                      replace k0 := cell_pure HB6.out k0
                      replace k1 := cell_pure HB6.out k1
                      replace k2 := cell_pure HB6.out k2
                      replace k3 := cell_pure HB6.out k3
                      clear hK K
                      try simp only [Act.put, List.setIfInBounds_toArray, List.set_cons_zero, List.set_cons_succ]
                      rw [HKT.out]
                      refine wpAnyH_take (i := 10) (oi := ?_) (v := ?_) ?_ ?_ ?_ ?_ ?_ ?_ ?_ ?_
                      rotate_left 2
                      · (simp only [List.getElem?_toArray, List.getElem?_cons_succ, List.getElem?_cons_zero]; rfl)
                      · kernel_rfl
                      · kernel_rfl
                      · kernel_rfl
                      · exact fun _ _ _ h => h
                      · refine Or.inl ⟨by rfl, ?_⟩
                        intro w' hSw
                        (try dsimp only at hSw)
                        go_simp
                        (try with_reducible rfl)
                      · assumption
                      try simp only [Act.put, List.setIfInBounds_toArray, List.set_cons_zero, List.set_cons_succ]
                      refine wpAnyH_take (i := 11) (oi := ?_) (v := ?_) ?_ ?_ ?_ ?_ ?_ ?_ ?_ ?_
                      rotate_left 2
                      · (simp only [List.getElem?_toArray, List.getElem?_cons_succ, List.getElem?_cons_zero]; rfl)
                      · kernel_rfl
                      · kernel_rfl
                      · kernel_rfl
                      · exact fun _ _ _ h => h
                      · refine Or.inl ⟨by rfl, ?_⟩
                        intro w' hSw
                        (try dsimp only at hSw)
                        go_simp
                        (try with_reducible rfl)
                      · assumption
                      try simp only [Act.put, List.setIfInBounds_toArray, List.set_cons_zero, List.set_cons_succ]
                      refine wpAnyH_take (i := 12) (oi := ?_) (v := ?_) ?_ ?_ ?_ ?_ ?_ ?_ ?_ ?_
                      rotate_left 2
                      · (simp only [List.getElem?_toArray, List.getElem?_cons_succ, List.getElem?_cons_zero]; rfl)
                      · kernel_rfl
                      · kernel_rfl
                      · kernel_rfl
                      · exact fun _ _ _ h => h
                      · refine Or.inl ⟨by rfl, ?_⟩
                        intro w' hSw
                        (try dsimp only at hSw)
                        go_simp
                        (try with_reducible rfl)
                      · assumption
                      try simp only [Act.put, List.setIfInBounds_toArray, List.set_cons_zero, List.set_cons_succ]
                      refine wpAnyH_take (i := 13) (oi := ?_) (v := ?_) ?_ ?_ ?_ ?_ ?_ ?_ ?_ ?_
                      rotate_left 2
                      · (simp only [List.getElem?_toArray, List.getElem?_cons_succ, List.getElem?_cons_zero]; rfl)
                      · kernel_rfl
                      · kernel_rfl
                      · kernel_rfl
                      · exact fun _ _ _ h => h
                      · refine Or.inl ⟨by rfl, ?_⟩
                        intro w' hSw
                        (try dsimp only at hSw)
                        go_simp
                        (try with_reducible rfl)
                      · assumption
                      try simp only [Act.put, List.setIfInBounds_toArray, List.set_cons_zero, List.set_cons_succ]
                      refine wpAnyH_take (i := 14) (oi := ?_) (v := ?_) ?_ ?_ ?_ ?_ ?_ ?_ ?_ ?_
                      rotate_left 2
                      · (simp only [List.getElem?_toArray, List.getElem?_cons_succ, List.getElem?_cons_zero]; rfl)
                      · kernel_rfl
                      · kernel_rfl
                      · kernel_rfl
                      · exact fun _ _ _ h => h
                      · refine Or.inl ⟨by rfl, ?_⟩
                        intro w' hSw
                        (try dsimp only at hSw)
                        go_simp
                        (try with_reducible rfl)
                      · assumption
                      try simp only [Act.put, List.setIfInBounds_toArray, List.set_cons_zero, List.set_cons_succ]
                      refine wpAnyH_take (i := 15) (oi := ?_) (v := undef) ?_ ?_ ?_ ?_ ?_ ?_ ?_ ?_
                      rotate_left 1
                      · (simp only [List.getElem?_toArray, List.getElem?_cons_succ, List.getElem?_cons_zero]; rfl)
                      · kernel_rfl
                      · kernel_rfl
                      · kernel_rfl
                      · exact fun _ _ _ h => h
                      · exact Or.inr ⟨by rfl, rfl⟩
                      · assumption
                      try simp only [Act.put, List.setIfInBounds_toArray, List.set_cons_zero, List.set_cons_succ]
                      refine wpAnyH_take (i := 16) (oi := ?_) (v := undef) ?_ ?_ ?_ ?_ ?_ ?_ ?_ ?_
                      rotate_left 1
                      · (simp only [List.getElem?_toArray, List.getElem?_cons_succ, List.getElem?_cons_zero]; rfl)
                      · kernel_rfl
                      · kernel_rfl
                      · kernel_rfl
                      · exact fun _ _ _ h => h
                      · exact Or.inr ⟨by rfl, rfl⟩
                      · assumption
                      try simp only [Act.put, List.setIfInBounds_toArray, List.set_cons_zero, List.set_cons_succ]
                      refine wpAnyH_take (i := 17) (oi := ?_) (v := ?_) ?_ ?_ ?_ ?_ ?_ ?_ ?_ ?_
                      rotate_left 2
                      · (simp only [List.getElem?_toArray, List.getElem?_cons_succ, List.getElem?_cons_zero]; rfl)
                      · kernel_rfl
                      · kernel_rfl
                      · kernel_rfl
                      · exact fun _ _ _ h => h
                      · refine Or.inl ⟨by rfl, ?_⟩
                        intro w' hSw
                        (try dsimp only at hSw)
                        go_simp
                        (try with_reducible rfl)
                      · assumption
                      try simp only [Act.put, List.setIfInBounds_toArray, List.set_cons_zero, List.set_cons_succ]
                      refine wpAnyH_take (i := 18) (oi := ?_) (v := ?_) ?_ ?_ ?_ ?_ ?_ ?_ ?_ ?_
                      rotate_left 2
                      · (simp only [List.getElem?_toArray, List.getElem?_cons_succ, List.getElem?_cons_zero]; rfl)
                      · kernel_rfl
                      · kernel_rfl
                      · kernel_rfl
                      · exact fun _ _ _ h => h
                      · refine Or.inl ⟨by rfl, ?_⟩
                        intro w' hSw
                        (try dsimp only at hSw)
                        go_simp
                        (try with_reducible rfl)
                      · assumption
                      try simp only [Act.put, List.setIfInBounds_toArray, List.set_cons_zero, List.set_cons_succ]
                      refine wpAnyH_take (i := 19) (oi := ?_) (v := undef) ?_ ?_ ?_ ?_ ?_ ?_ ?_ ?_
                      rotate_left 1
                      · (simp only [List.getElem?_toArray, List.getElem?_cons_succ, List.getElem?_cons_zero]; rfl)
                      · kernel_rfl
                      · kernel_rfl
                      · kernel_rfl
                      · exact fun _ _ _ h => h
                      · exact Or.inr ⟨by rfl, rfl⟩
                      · assumption
                      try simp only [Act.put, List.setIfInBounds_toArray, List.set_cons_zero, List.set_cons_succ]
                      refine wpAnyH_take (i := 20) (oi := ?_) (v := undef) ?_ ?_ ?_ ?_ ?_ ?_ ?_ ?_
                      rotate_left 1
                      · (simp only [List.getElem?_toArray, List.getElem?_cons_succ, List.getElem?_cons_zero]; rfl)
                      · kernel_rfl
                      · kernel_rfl
                      · kernel_rfl
                      · exact fun _ _ _ h => h
                      · exact Or.inr ⟨by rfl, rfl⟩
                      · assumption
                      try simp only [Act.put, List.setIfInBounds_toArray, List.set_cons_zero, List.set_cons_succ]
                      refine wpAnyH_take (i := 21) (oi := ?_) (v := undef) ?_ ?_ ?_ ?_ ?_ ?_ ?_ ?_
                      rotate_left 1
                      · (simp only [List.getElem?_toArray, List.getElem?_cons_succ, List.getElem?_cons_zero]; rfl)
                      · kernel_rfl
                      · kernel_rfl
                      · kernel_rfl
                      · exact fun _ _ _ h => h
                      · exact Or.inr ⟨by rfl, rfl⟩
                      · assumption
                      try simp only [Act.put, List.setIfInBounds_toArray, List.set_cons_zero, List.set_cons_succ]
                      refine wpAnyH_take (i := 22) (oi := ?_) (v := ?_) ?_ ?_ ?_ ?_ ?_ ?_ ?_ ?_
                      rotate_left 2
                      · (simp only [List.getElem?_toArray, List.getElem?_cons_succ, List.getElem?_cons_zero]; rfl)
                      · kernel_rfl
                      · kernel_rfl
                      · kernel_rfl
                      · exact fun _ _ _ h => h
                      · refine Or.inl ⟨by rfl, ?_⟩
                        intro w' hSw
                        (try dsimp only at hSw)
                        go_simp
                        (try with_reducible rfl)
                      · assumption
                      try simp only [Act.put, List.setIfInBounds_toArray, List.set_cons_zero, List.set_cons_succ]
                      refine wpAnyH_take (i := 23) (oi := ?_) (v := ?_) ?_ ?_ ?_ ?_ ?_ ?_ ?_ ?_
                      rotate_left 2
                      · (simp only [List.getElem?_toArray, List.getElem?_cons_succ, List.getElem?_cons_zero]; rfl)
                      · kernel_rfl
                      · kernel_rfl
                      · kernel_rfl
                      · exact fun _ _ _ h => h
                      · refine Or.inl ⟨by rfl, ?_⟩
                        intro w' hSw
                        (try dsimp only at hSw)
                        go_simp
                        (try with_reducible rfl)
                      · assumption
                      try simp only [Act.put, List.setIfInBounds_toArray, List.set_cons_zero, List.set_cons_succ]
                      refine wpAnyH_take (i := 24) (oi := ?_) (v := ?_) ?_ ?_ ?_ ?_ ?_ ?_ ?_ ?_
                      rotate_left 2
                      · (simp only [List.getElem?_toArray, List.getElem?_cons_succ, List.getElem?_cons_zero]; rfl)
                      · kernel_rfl
                      · kernel_rfl
                      · kernel_rfl
                      · exact fun _ _ _ h => h
                      · refine Or.inl ⟨by rfl, ?_⟩
                        intro w' hSw
                        (try dsimp only at hSw)
                        go_simp
                        (try with_reducible rfl)
                      · assumption
                      try simp only [Act.put, List.setIfInBounds_toArray, List.set_cons_zero, List.set_cons_succ]
                      refine wpAnyH_done (by kernel_rfl) ?_ _
                      go_wp2_with fail
                      go_meet
                      exact ⟨_, rfl, rfl, pure_trans (pure_below (Below.refl _ _).drew HB5.out) HB6.out⟩
                case rest =>
                  obtain ⟨we, rfl, rfl, hb⟩ := hcut
                  replace HBr := Lib.hid (pure_below (pure_below HBr.out HB7.out) hb)
                  clear hb i0 i1 i2 i3 k0 k1 k2 k3 HB7
                  go_wp2
                  go_roundw
                  case rel => exact ⟨k + 1, by omega, by go_num, HBr.out⟩
                  case measure => simp [intOf]; omega
        · go_wp2
          go_roundw
          case rel => exact ⟨i + 1, by omega, by go_num, HBr.out⟩
          case measure => simp [intOf]; omega
    · go_wp2_with fail
      go_at_call 9
      refine (refworks_spec _).mono ?_
      rintro e w9 ⟨rfl, hb⟩
      have HBF := Lib.hid (pure_below (pure_below HB.out HBr.out) hb)
      clear hb
      go_wp2
      go_ret
      exact ⟨rfl, HBF.out⟩
end Go.Proofs.Ytmahemllfghdfaa
